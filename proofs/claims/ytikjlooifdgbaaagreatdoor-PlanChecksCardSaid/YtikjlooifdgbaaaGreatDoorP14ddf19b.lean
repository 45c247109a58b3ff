/- Words and laws that the theorem leans on (part 6). -/
import Derived.Test.YtikjlooifdgbaaaGreatDoorP11355698
import Derived.Test.YtikjlooifdgbaaaGreatDoorP49b084f4
import Derived.Test.YtikjlooifdgbaaaGreatDoorP5fca0e50
import Derived.Test.YtikjlooifdgbaaaGreatDoorP3782a6b2
import Derived.Test.YtikjlooifdgbaaaGreatDoorP1e7b3749
import Derived.Test.YtikjlooifdgbaaaGreatDoorRows
import Derived.Carry
import Derived.Lib.SmallJoins
import Derived.LaidMore
import Derived.PinnedBridge
import Derived.HandedShaped
import Derived.ProofKit
import Derived.OpenShut
import Derived.ShutString
import Derived.SizedLaws
import Derived.Stop.LaidErr
import Derived.Stop.Joined
import Derived.Shelf.Vars
import Derived.Lib.LaidTab
import Derived.MakeChecks
set_option linter.unusedVariables false
set_option linter.unusedSimpArgs false

set_option linter.unusedVariables false
set_option linter.unusedSimpArgs false
namespace Go.Lg.Tryz
open Go Go.Proofs Go.RowKit Go.Lib Go.Lg.Sem
theorem refSteps_ok {c : Ctl} (hlv : LvOk c) {f t : List Int} (hf : rightV c f = true) (ht : rightV c t = true) (hl : f.length ≤ 1000) (hri : ∀ i, i < f.length → riseV c f t i = 0 ∨ riseV c f t i = 1) :
    Fn Tryz.prog Gw 20 [.tr (ctlT c), .tr (.ls (f.map intT)), .tr (.ls (t.map intT))] [] (· = .tr (.ls ((stepsV c f t).map stpT))) := by
  obtain ⟨hfl, hfa⟩ := rightV_at hf
  obtain ⟨htl, hta⟩ := rightV_at ht
  refine Fn.of tab_ok Tryz.func20 rfl (by decide) (by simp [Tryz.f20]) rfl (fun κ v h => by cases h) Gw.below ?_
  repeat' (first|refine zS ?_|refine zR ?_|refine zE tab_ok rfl rfl ?_|refine zN ?_|(refine zG rfl rfl (fun _ => ?_) fun _ => ?_)<;>refine zE tab_ok rfl rfl ?_|(refine zC rfl (fun _ => ?_) fun _ => ?_)<;>try (rename_i h; cases h; done)|refine zB ?_|refine zK ?_|refine zZ ⟨_, rfl, ?_⟩)
  refine Tr.loopS (fun i : Nat => [(.s 1, .tr (.ls (f.map intT))), (.s 2, .tr (.ls (t.map intT))), (.s 3, .ptr (.l 3) 0), (.l 3, .blk 29 [.tr (.ls (c.map svcT))]), (.s 7, .own 115 ((stepsUp c f t i).map stpT)), (.s 8, int i)]) (fun i => f.length - i) (fun i => i ≤ f.length)
    0 (by omega) (Sub.app (l := [_, _, _, _, _, _]) (H := []) ⟨rfl, rfl, rfl, rfl, rfl, rfl, trivial⟩ (fun κ v h => nomatch h)) ?_
  rintro i hi
  have hlen := stepsUp_len c f t i
  repeat' (first|refine zS ?_|refine zR ?_|refine zE tab_ok rfl rfl ?_|refine zN ?_|(refine zG rfl rfl (fun _ => ?_) fun _ => ?_)<;>refine zE tab_ok rfl rfl ?_|(refine zC rfl (fun _ => ?_) fun _ => ?_)<;>try (rename_i h; cases h; done)|refine zB ?_|refine zK ?_|refine zZ ⟨_, rfl, ?_⟩)
  · rename_i h2
    have h2 : decide ((i : Int) < ((f.map intT).length : Int)) = true := h2
    have hlt : i < f.length := by simp only [List.length_map, decide_eq_true_eq] at h2; omega
    obtain ⟨v, s, r, hv, hs, hv0, hr, hrel⟩ := hfa i hlt
    obtain ⟨w, s', g, hw, hs', hw0, hq, hqel⟩ := hta i (by omega)
    obtain rfl : s = s' := by rw [hs] at hs'; exact Option.some.inj hs'
    have hve : (f.map intT)[((i : Nat) : Int).toNat]? = some (intT v) := by simp [hv]
    have hwe : (t.map intT)[((i : Nat) : Int).toNat]? = some (intT w) := by simp [hw]
    have hse : (c.map svcT)[((i : Nat) : Int).toNat]? = some (svcT s) := by simp [hs]
    have hre : (s.rels.map rlsT)[v.toNat]? = some (rlsT r) := by simp [hr]
    have hqe : (s.rels.map rlsT)[w.toNat]? = some (rlsT g) := by simp [hq]
    have hrise : riseV c f t i = g.level - r.level := by unfold riseV lvl; rw [vAt_of hv, vAt_of hw, hrel, hqel]
    have hri := hri i hlt
    have hsucc := stepsUp_succ c f t i
    have hsa : stepsAt c f t i = if v = w then [] else if riseV c f t i = 0 then [⟨i, 2⟩] else [⟨i, 1⟩, ⟨i, 2⟩, ⟨i, 3⟩] := by unfold stepsAt; rw [vAt_of hv, vAt_of hw]
    refine Tr.drawn ( zD tab_ok rfl rfl <| zD tab_ok rfl rfl <| zO rfl (fun q K hK => zI (x := intT v) tab_ok rfl (by omega) (hve) rfl (zN hK)) <| zD tab_ok rfl rfl <| zD tab_ok rfl rfl <| zD tab_ok rfl rfl <| zO rfl (fun q K hK => zI (x := intT w) tab_ok rfl (by omega) (hwe) rfl (zN hK)) <| zD tab_ok rfl rfl <| zD tab_ok rfl rfl <| DSq.nil _) mix_ok rfl ?_
    refine zC rfl (fun h3 => ?_) (fun h3 => ?_)
    · have h3 : (v == w) = true := h3
      rw [beq_iff_eq] at h3
      rw [if_pos h3] at hsa
      rw [hsa, List.append_nil] at hsucc
      refine Tr.exit ?_
      repeat' (first|refine zS ?_|refine zR ?_|refine zE tab_ok rfl rfl ?_|refine zN ?_|(refine zG rfl rfl (fun _ => ?_) fun _ => ?_)<;>refine zE tab_ok rfl rfl ?_|(refine zC rfl (fun _ => ?_) fun _ => ?_)<;>try (rename_i h; cases h; done)|refine zB ?_|refine zK ?_|refine zZ ⟨_, rfl, ?_⟩)
      exact ⟨i + 1, by omega, by omega, Sub.app (l := [_, _, _, _, _, _]) (H := []) ⟨rfl, rfl, rfl, rfl, by rw [hsucc]; rfl, congrArg some (wrapz (by omega) (by omega) (by omega)), trivial⟩ (fun κ v h => nomatch h)⟩
    · have h3 : (v == w) = false := h3
      rw [beq_eq_false_iff_ne] at h3
      rw [if_neg h3] at hsa
      refine zK ?_
      refine zS ?_
      refine Tr.drawn ( zD tab_ok rfl rfl <| zD tab_ok rfl rfl <| zD tab_ok rfl rfl <| zO rfl (fun q K hK => zI (x := svcT s) tab_ok rfl (by omega) (hse) rfl (zN hK)) <| zD tab_ok rfl rfl <| zD tab_ok rfl rfl <| zD tab_ok rfl rfl <| zD tab_ok rfl rfl <| zO rfl (fun q K hK => zI (x := intT w) tab_ok rfl (by omega) (hwe) rfl (zN hK)) <| zD tab_ok rfl rfl <| zO rfl (fun q K hK => zI (x := rlsT g) tab_ok rfl (by omega) (hqe) rfl (zN hK)) <| zD tab_ok rfl rfl <| zD tab_ok rfl rfl <| zD tab_ok rfl rfl <| zD tab_ok rfl rfl <| zD tab_ok rfl rfl <| zO rfl (fun q K hK => zI (x := svcT s) tab_ok rfl (by omega) (hse) rfl (zN hK)) <| zD tab_ok rfl rfl <| zD tab_ok rfl rfl <| zD tab_ok rfl rfl <| zD tab_ok rfl rfl <| zO rfl (fun q K hK => zI (x := intT v) tab_ok rfl (by omega) (hve) rfl (zN hK)) <| zD tab_ok rfl rfl <| zO rfl (fun q K hK => zI (x := rlsT r) tab_ok rfl (by omega) (hre) rfl (zN hK)) <| zD tab_ok rfl rfl <| zD tab_ok rfl rfl <| zD tab_ok rfl rfl <| DSq.nil _) mix_ok rfl ?_
      refine zC rfl (fun h4 => ?_) (fun h4 => ?_)
      · have h4 : decide (g.level > r.level) = true := h4
        rw [decide_eq_true_eq] at h4
        rw [if_neg (by rw [hrise]; omega)] at hsa
        refine zR ?_
        refine zE tab_ok rfl rfl ?_
        refine zE tab_ok rfl rfl ?_
        refine zE tab_ok rfl rfl ?_
        refine zE tab_ok rfl rfl ?_
        refine zE tab_ok rfl rfl ?_
        refine zE tab_ok rfl rfl ?_
        refine zE tab_ok rfl rfl ?_
        refine zE tab_ok rfl rfl ?_
        refine Sq.append tab_ok rfl (fun y hy => by simp only [List.mem_cons, List.not_mem_nil, or_false] at hy; rcases hy with rfl | rfl | rfl <;> rfl) (by simp; omega) ?_
        repeat' (first|refine zS ?_|refine zR ?_|refine zE tab_ok rfl rfl ?_|refine zN ?_|(refine zG rfl rfl (fun _ => ?_) fun _ => ?_)<;>refine zE tab_ok rfl rfl ?_|(refine zC rfl (fun _ => ?_) fun _ => ?_)<;>try (rename_i h; cases h; done)|refine zB ?_|refine zK ?_|refine zZ ⟨_, rfl, ?_⟩)
        exact ⟨i + 1, by omega, by omega, Sub.app (l := [_, _, _, _, _, _]) (H := []) ⟨rfl, rfl, rfl, rfl, by rw [hsucc, hsa, List.map_append]; rfl, congrArg some (wrapz (by omega) (by omega) (by omega)), trivial⟩ (fun κ v h => nomatch h)⟩
      · have h4 : decide (g.level > r.level) = false := h4
        rw [decide_eq_false_iff_not] at h4
        rw [if_pos (by omega)] at hsa
        refine zR ?_
        refine zE tab_ok rfl rfl ?_
        refine zE tab_ok rfl rfl ?_
        refine zE tab_ok rfl rfl ?_
        refine zE tab_ok rfl rfl ?_
        refine Sq.append tab_ok rfl (fun y hy => by simp only [List.mem_singleton] at hy; subst hy; rfl) (by simp; omega) ?_
        repeat' (first|refine zS ?_|refine zR ?_|refine zE tab_ok rfl rfl ?_|refine zN ?_|(refine zG rfl rfl (fun _ => ?_) fun _ => ?_)<;>refine zE tab_ok rfl rfl ?_|(refine zC rfl (fun _ => ?_) fun _ => ?_)<;>try (rename_i h; cases h; done)|refine zB ?_|refine zK ?_|refine zZ ⟨_, rfl, ?_⟩)
        exact ⟨i + 1, by omega, by omega, Sub.app (l := [_, _, _, _, _, _]) (H := []) ⟨rfl, rfl, rfl, rfl, by rw [hsucc, hsa, List.map_append]; rfl, congrArg some (wrapz (by omega) (by omega) (by omega)), trivial⟩ (fun κ v h => nomatch h)⟩
  · rename_i h2
    have h2 : decide ((i : Int) < ((f.map intT).length : Int)) = false := h2
    have : i = f.length := by simp only [List.length_map, decide_eq_false_iff_not] at h2; omega
    subst this
    refine Tr.exit ?_
    repeat' (first|refine zS ?_|refine zR ?_|refine zE tab_ok rfl rfl ?_|refine zN ?_|(refine zG rfl rfl (fun _ => ?_) fun _ => ?_)<;>refine zE tab_ok rfl rfl ?_|(refine zC rfl (fun _ => ?_) fun _ => ?_)<;>try (rename_i h; cases h; done)|refine zB ?_|refine zK ?_|refine zZ ⟨_, rfl, ?_⟩)
    rfl
theorem refPGraph_ok (f t : List Int) (l : List Stp) (e : List (Nat × Nat)) :
    Fn Tryz.prog Gw 25 [.tr (plnT ⟨f, t, l, e⟩)] [] (· = .tr (grT l.length e)) := by
  refine Fn.of tab_ok Tryz.func25 rfl (by decide) (by simp [Tryz.f25]) rfl (fun κ v h => by cases h) Gw.below ?_
  repeat' (first|refine zS ?_|refine zR ?_|refine zE tab_ok rfl rfl ?_|refine zN ?_|(refine zG rfl rfl (fun _ => ?_) fun _ => ?_)<;>refine zE tab_ok rfl rfl ?_|(refine zC rfl (fun _ => ?_) fun _ => ?_)<;>try (rename_i h; cases h; done)|refine zB ?_|refine zK ?_|refine zZ ⟨_, rfl, ?_⟩)
  show AV.tr (.ag [.sc (.int .i64 ((l.map stpT).length : Int)), _]) = _
  rw [List.length_map]
end Go.Lg.Tryz

set_option linter.unusedVariables false
set_option linter.unusedSimpArgs false
namespace Go.Lg.Tryz
open Go Go.Proofs Go.RowKit Go.Lib Go.Lg.Sem
end Go.Lg.Tryz

set_option linter.unusedVariables false
set_option linter.unusedSimpArgs false
namespace Go.Lg.Tryz
open Go Go.Proofs Go.RowKit Go.Lib Go.Lg.Sem
theorem eqA_rstp (d : Nat) (w : World) (x0 y0 x1 y1 : Int) : (Op.equalIn (d + 2) 115 (.agg #[.int .i64 x0, .int .i64 x1]) (.agg #[.int .i64 y0, .int .i64 y1])).run Tryz.prog w = .ok (x0 == y0 && x1 == y1) w := by
  refine eqA_of Tryz.underlying115 (by kernel_rfl) ?_
  refine eqf_cons (by rfl) (by go_simp; rfl) (by go_simp; rfl) (by go_simp) ?_
  exact eqf_last (by rfl) (by go_simp; rfl) (by go_simp; rfl) (by go_simp)
end Go.Lg.Tryz

set_option linter.unusedVariables false
set_option linter.unusedSimpArgs false
namespace Go.Lg.Tryz
open Go Go.Proofs Go.RowKit Go.Lib Go.Lg.Sem
end Go.Lg.Tryz

set_option linter.unusedVariables false
set_option linter.unusedSimpArgs false
namespace Go.Lg.Tryz
open Go Go.Proofs Go.RowKit Go.Lib Go.Lg.Sem
def nowV (f t : List Int) (g : BitVec 64) (i : Nat) : Int := if g.getLsbD i then vAt t i else vAt f i
def doneUp (f t : List Int) (g : BitVec 64) (k : Nat) : Bool := (List.range k).all fun i => nowV f t g i == vAt t i
def okB (c : Ctl) (f t : List Int) (g : BitVec 64) : Bool := (List.range f.length).all fun i => (List.range i).all fun j => fitsB c i (nowV f t g i) j (nowV f t g j)
def ordB (c : Ctl) (f t : List Int) : Nat → BitVec 64 → Bool
  | 0, g => okB c f t g && doneUp f t g f.length
  | n + 1, g => okB c f t g && (doneUp f t g f.length || (List.range f.length).any fun i => (nowV f t g i != vAt t i) && ordB c f t n (g ||| 1#64 <<< i))
end Go.Lg.Tryz

set_option linter.unusedVariables false
set_option linter.unusedSimpArgs false
namespace Go.Lg.Tryz
open Go Go.Proofs Go.RowKit Go.Lib Go.Lg.Sem
theorem in_bit (g : BitVec 64) (k : Nat) : (Int.tmod ((g >>> k).toNat : Int) 2 == 1) = g.getLsbD k := by
  have h1 : Int.tmod ((g >>> k).toNat : Int) 2 = (((g >>> k).toNat % 2 : Nat) : Int) := rfl
  have h2 : g.getLsbD k = (g >>> k).getLsbD 0 := by rw [BitVec.getLsbD_ushiftRight, Nat.add_zero]
  rw [h1, h2]
  show _ = (g >>> k).toNat.testBit 0
  rw [Nat.testBit_zero, Bool.eq_iff_iff, beq_iff_eq, decide_eq_true_eq]
  omega
theorem In_ok (g : BitVec 64) (k : Nat) (hk : k ≤ 63) : Fn Tryz.prog Gw 24 [u64 g, int k] [] (· = bool (g.getLsbD k)) := by
  refine Fn.of tab_ok Tryz.func24 rfl (by decide) (by simp [Tryz.f24]) rfl (fun κ v h => by cases h) Gw.below ?_
  repeat' (first|refine zS ?_|refine zR ?_|refine zE tab_ok rfl rfl ?_|refine zN ?_|(refine zG rfl rfl (fun _ => ?_) fun _ => ?_)<;>refine zE tab_ok rfl rfl ?_|(refine zC rfl (fun _ => ?_) fun _ => ?_)<;>try (rename_i h; cases h; done)|refine zB ?_|refine zK ?_|refine zZ ⟨_, rfl, ?_⟩)
  refine Sq.shift rfl g k rfl rfl (by omega) ?_
  refine Sq.div (q := false) rfl (by decide) rfl ?_
  repeat' (first|refine zS ?_|refine zR ?_|refine zE tab_ok rfl rfl ?_|refine zN ?_|(refine zG rfl rfl (fun _ => ?_) fun _ => ?_)<;>refine zE tab_ok rfl rfl ?_|(refine zC rfl (fun _ => ?_) fun _ => ?_)<;>try (rename_i h; cases h; done)|refine zB ?_|refine zK ?_|refine zZ ⟨_, rfl, ?_⟩)
  show bool (Int.tmod ((g >>> k).toNat : Int) 2 == 1) = _
  rw [in_bit]
end Go.Lg.Tryz

set_option linter.unusedVariables false
set_option linter.unusedSimpArgs false
namespace Go.Lg.Tryz
open Go Go.Proofs Go.RowKit Go.Lib Go.Lg.Sem
end Go.Lg.Tryz

set_option linter.unusedVariables false
set_option linter.unusedSimpArgs false
namespace Go.Lg.Tryz
open Go Go.Proofs Go.RowKit Go.Lib Go.Lg.Sem
abbrev pT' (p : Int × Int) : T := pT p.1 p.2
def fltL (L : List (Int × Int)) : List AV := ((L.map pT').flatMap T.cells).map .tr
theorem flt_cons (p : Int × Int) (L : List (Int × Int)) : fltL (p :: L) = int p.1 :: int p.2 :: fltL L := rfl
theorem flt_at0 : ∀ (L : List (Int × Int)) (U : List AV) (i : Nat) (p : Int × Int), L[i]? = some p → (fltL L ++ U)[i * 2]? = some (int p.1)
  | [], U, i, p, h => by simp at h
  | q :: L, U, 0, p, h => by simp at h; subst h; rfl
  | q :: L, U, i + 1, p, h => by
    rw [show (i + 1) * 2 = i * 2 + 1 + 1 by omega, flt_cons, List.cons_append, List.cons_append, List.getElem?_cons_succ, List.getElem?_cons_succ]
    exact flt_at0 L U i p (by simpa using h)
theorem flt_at1 : ∀ (L : List (Int × Int)) (U : List AV) (i : Nat) (p : Int × Int), L[i]? = some p → (fltL L ++ U)[i * 2 + 1]? = some (int p.2)
  | [], U, i, p, h => by simp at h
  | q :: L, U, 0, p, h => by simp at h; subst h; rfl
  | q :: L, U, i + 1, p, h => by
    rw [show (i + 1) * 2 + 1 = i * 2 + 1 + 1 + 1 by omega, flt_cons, List.cons_append, List.cons_append, List.getElem?_cons_succ, List.getElem?_cons_succ]
    exact flt_at1 L U i p (by simpa using h)
theorem flt_set0 : ∀ (L : List (Int × Int)) (U : List AV) (i : Nat) (p : Int × Int) (v : Int), L[i]? = some p → (fltL L ++ U).set (i * 2) (int v) = fltL (L.set i (v, p.2)) ++ U
  | [], U, i, p, v, h => by simp at h
  | q :: L, U, 0, p, v, h => by simp at h; subst h; rfl
  | q :: L, U, i + 1, p, v, h => by
    rw [show (i + 1) * 2 = i * 2 + 1 + 1 by omega, flt_cons, List.cons_append, List.cons_append, List.set_cons_succ, List.set_cons_succ, flt_set0 L U i p v (by simpa using h), List.set_cons_succ]; rfl
theorem flt_set1 : ∀ (L : List (Int × Int)) (U : List AV) (i : Nat) (p : Int × Int) (v : Int), L[i]? = some p → (fltL L ++ U).set (i * 2 + 1) (int v) = fltL (L.set i (p.1, v)) ++ U
  | [], U, i, p, v, h => by simp at h
  | q :: L, U, 0, p, v, h => by simp at h; subst h; rfl
  | q :: L, U, i + 1, p, v, h => by
    rw [show (i + 1) * 2 + 1 = i * 2 + 1 + 1 + 1 by omega, flt_cons, List.cons_append, List.cons_append, List.set_cons_succ, List.set_cons_succ, flt_set1 L U i p v (by simpa using h), List.set_cons_succ]; rfl
theorem flt_len (L : List (Int × Int)) : (fltL L).length = L.length * 2 := by
  induction L with
  | nil => rfl
  | cons p L ih => rw [flt_cons, List.length_cons, List.length_cons, ih, List.length_cons]; omega
theorem flt_hc : ∀ (L : List (Int × Int)) (U : List AV) (i j : Nat) (x y : T), (L.map pT')[i]? = some x → x.cells[j]? = some y → ∃ v, (fltL L ++ U)[i * 2 + j]? = some v ∧ v.deg = .tr y
  | [], U, i, j, x, y, h, _ => by simp at h
  | q :: L, U, 0, j, x, y, h, hy => by
    simp at h; subst h
    match j with
    | 0 => obtain rfl := Option.some.inj hy; exact ⟨int q.1, rfl, rfl⟩
    | 1 => obtain rfl := Option.some.inj hy; exact ⟨int q.2, rfl, rfl⟩
    | j + 2 => cases hy
  | q :: L, U, i + 1, j, x, y, h, hy => by
    rw [show (i + 1) * 2 + j = (i * 2 + j) + 1 + 1 by omega, flt_cons, List.cons_append, List.cons_append, List.getElem?_cons_succ, List.getElem?_cons_succ]
    exact flt_hc L U i j x y (by simpa using h) hy
def movedV (f t : List Int) (a : Stp) (L : List (Int × Int)) : List (Int × Int) := match L[a.s]? with
  | some p => if a.k = 2 then L.set a.s (p.1 + (vAt t a.s - vAt f a.s), p.2) else L.set a.s (p.1, p.2 + 1)
  | none => L
set_option maxRecDepth 8192 in
theorem Moved_ok (f t : List Int) (l : List Stp) (e : List (Nat × Nat)) (L : List (Int × Int)) {k : Nat} {a : Stp} (ha : l[k]? = some a) (hak : a.k ≤ 3) {p : Int × Int} (hp : L[a.s]? = some p) {v w : Int} (hv : f[a.s]? = some v) (hw : t[a.s]? = some w)
    (b1 : -10000 ≤ p.1 ∧ p.1 ≤ 10000) (b2 : -10000 ≤ p.2 ∧ p.2 ≤ 10000) (b3 : 0 ≤ v ∧ v ≤ 1000) (b4 : 0 ≤ w ∧ w ≤ 1000) (hL : L.length ≤ 1000) (hk : k ≤ 1000) :
    Fn Tryz.prog Gw 68 [.tr (plnT ⟨f, t, l, e⟩), .tr (.ls (L.map pT')), int k] [] (· = .tr (.ls ((movedV f t a L).map pT'))) := by
  have hae : (l.map stpT)[((k : Nat) : Int).toNat]? = some (stpT a) := by simp [ha]
  have hve : (f.map intT)[((a.s : Nat) : Int).toNat]? = some (intT v) := by simp [hv]
  have hwe : (t.map intT)[((a.s : Nat) : Int).toNat]? = some (intT w) := by simp [hw]
  have hsl := (List.getElem?_eq_some_iff.1 hp).1
  have hmv : movedV f t a L = if a.k = 2 then L.set a.s (p.1 + (w - v), p.2) else L.set a.s (p.1, p.2 + 1) := by
    unfold movedV; rw [hp, vAt_of hv, vAt_of hw]
  rw [hmv]
  refine Fn.of tab_ok Tryz.func68 rfl (by decide) (by simp [Tryz.f68]) rfl (fun κ v h => by cases h) Gw.below ?_
  refine zS ?_
  refine zR ?_
  refine zE tab_ok rfl rfl ?_
  refine zE tab_ok rfl rfl ?_
  refine zN ?_
  refine zS ?_
  refine zR ?_
  refine Sq.lit0R tab_ok rfl ?_
  refine zE tab_ok rfl rfl ?_
  refine Sq.appendR tab_ok rfl (fun y hy => by obtain ⟨a, _, rfl⟩ := List.mem_map.1 hy; rfl) (by rw [List.length_map]; simp; omega) ?_
  refine zE tab_ok rfl rfl ?_
  refine zN ?_
  refine zS ?_
  refine zR ?_
  refine zE tab_ok rfl rfl ?_
  refine zE tab_ok rfl rfl ?_
  refine zE tab_ok rfl rfl ?_
  refine zI (x := stpT a) tab_ok rfl (by omega) (hae) rfl ?_
  refine zE tab_ok rfl rfl ?_
  refine zE tab_ok rfl rfl ?_
  refine zE tab_ok rfl rfl ?_
  refine zN ?_
  refine zS ?_
  refine zS ?_
  refine zR ?_
  refine zE tab_ok rfl rfl ?_
  refine zE tab_ok rfl rfl ?_
  refine zE tab_ok rfl rfl ?_
  refine zN ?_
  have thw : ∀ (Q : Exit → Store → Prop) (cc : Code) (m : Store), SubL [(.s 3, .ptr (.l 3) 0), (.l 3, .blk 41 [.tr (.ls (f.map intT)), .tr (.ls (t.map intT)), .tr (.ls (l.map stpT)), .tr (.ls (e.map edT))]), (.s 8, .ptr (.l 8) 0), (.l 8, .blk 115 [int a.s, int a.k]), (.s 7, .raw 88 true (L.map pT'))] m →
      (∀ cap U, L.length ≤ cap → Tr Tryz.prog ⟨Gw, []⟩ Tryz.f68.ntmps cc ((.s 7, .sl (.l 1000) L.length cap) :: (.l 1000, .blk 88 (fltL L ++ U)) :: [(.s 3, .ptr (.l 3) 0), (.l 3, .blk 41 [.tr (.ls (f.map intT)), .tr (.ls (t.map intT)), .tr (.ls (l.map stpT)), .tr (.ls (e.map edT))]), (.s 8, .ptr (.l 8) 0), (.l 8, .blk 115 [int a.s, int a.k]), (.s 7, .raw 88 true (L.map pT'))]) Q) → Tr Tryz.prog ⟨Gw, []⟩ Tryz.f68.ntmps cc m Q := by
    intro Q cc m hm hk
    refine Tr.sub (m' := [_, _, _, _, _]) hm ?_
    refine Tr.thaw tab_ok 7 (.l 1000) (xs := L.map pT') rfl (by intro h; have := congrArg List.length h; rw [List.length_map] at this; simp at this; subst this; simp at hsl) rfl (by decide) rfl rfl ?_
    intro cap hcap
    rw [List.length_map] at hcap ⊢
    exact hk cap _ hcap
  refine zC rfl (fun h2 => ?_) (fun h2 => ?_) <;> refine thw _ _ _ ⟨rfl, rfl, rfl, rfl, rfl, trivial⟩ (fun cap U hcap => ?_) <;> have hp0 := flt_at0 L U a.s p hp <;> have hp1 := flt_at1 L U a.s p hp
  · have h2 : ((a.k : Int) == 2) = true := h2
    have h2 : a.k = 2 := by rw [beq_iff_eq] at h2; omega
    rw [if_pos h2]
    have hset := flt_set0 L U a.s p (p.1 + (w - v)) hp
    refine Tr.drawn ( zD tab_ok rfl rfl <| zD tab_ok rfl rfl <| zD tab_ok rfl rfl <| zO rfl (fun q K hK => Sq.indexS (j := ((a.s : Nat) : Int)) (len := L.length) tab_ok rfl (by omega) (by omega) (zN hK)) <| zD tab_ok rfl rfl <| zO rfl (fun q K hK => Sq.loadS (v := int p.1) tab_ok rfl (by rw [Int.toNat_natCast]; exact hp0) (zN hK)) <| zD tab_ok rfl rfl <| zD tab_ok rfl rfl <| zD tab_ok rfl rfl <| zD tab_ok rfl rfl <| zO rfl (fun q K hK => zI (x := intT w) tab_ok rfl (by omega) (hwe) rfl (zN hK)) <| zD tab_ok rfl rfl <| zD tab_ok rfl rfl <| zD tab_ok rfl rfl <| zD tab_ok rfl rfl <| zD tab_ok rfl rfl <| zO rfl (fun q K hK => zI (x := intT v) tab_ok rfl (by omega) (hve) rfl (zN hK)) <| zD tab_ok rfl rfl <| DSq.evr tab_ok rfl (congrArg int (Go.IntWalk.i64_in (w - v) ⟨by omega, by omega⟩)) <| DSq.evr tab_ok rfl (congrArg int (Go.IntWalk.i64_in (p.1 + (w - v)) ⟨by omega, by omega⟩)) <| zO rfl (fun q K hK => Sq.indexS (j := ((a.s : Nat) : Int)) (len := L.length) tab_ok rfl (by omega) (by omega) (zN hK)) <| zD tab_ok rfl rfl <| DSq.blk rfl (fun q K hK => Sq.storeS tab_ok rfl (by show ((a.s : Nat) : Int).toNat * 2 + 0 < _; rw [List.length_append, flt_len]; omega) (zN hK)) <| DSq.nil _) mix_ok rfl ?_
    have hset' : (fltL L ++ U).set (((a.s : Nat) : Int).toNat * 2 + 0) (int (p.1 + (w - v))) = fltL (L.set a.s (p.1 + (w - v), p.2)) ++ U := by rw [Int.toNat_natCast]; exact hset
    have hLl : (L.set a.s (p.1 + (w - v), p.2)).length = L.length := List.length_set
    refine Tr.sub (m' := [(.s 7, .sl (.l 1000) L.length cap), (.l 1000, .blk 88 (fltL (L.set a.s (p.1 + (w - v), p.2)) ++ U))]) ⟨rfl, by rw [← hset']; rfl, trivial⟩ ?_
    generalize L.set a.s (p.1 + (w - v), p.2) = L' at *
    refine Tr.turn (fun Γ a w h => RelX.freeze (es := 2) (xs := L'.map pT') (cap := cap) (len := L.length) (cells := fltL L' ++ U) h (s := 7) (κ := .l 1000) rfl rfl rfl (by rw [List.length_map]; exact hLl) (by rw [List.length_append, flt_len]; omega) (by intro x hx; obtain ⟨a, _, rfl⟩ := List.mem_map.1 hx; rfl) (flt_hc L' U)) ?_
    repeat' (first|refine zS ?_|refine zR ?_|refine zE tab_ok rfl rfl ?_|refine zN ?_|(refine zG rfl rfl (fun _ => ?_) fun _ => ?_)<;>refine zE tab_ok rfl rfl ?_|(refine zC rfl (fun _ => ?_) fun _ => ?_)<;>try (rename_i h; cases h; done)|refine zB ?_|refine zK ?_|refine zZ ⟨_, rfl, ?_⟩)
    rfl
  · have h2 : ((a.k : Int) == 2) = false := h2
    have h2 : a.k ≠ 2 := by rw [beq_eq_false_iff_ne] at h2; omega
    rw [if_neg h2]
    have hset := flt_set1 L U a.s p (p.2 + 1) hp
    have hw1 : IntKind.i64.wrap (p.2 + 1) = p.2 + 1 := Go.IntWalk.i64_in _ ⟨by omega, by omega⟩
    refine zR ?_
    refine zE tab_ok rfl rfl ?_
    refine zE tab_ok rfl rfl ?_
    refine zE tab_ok rfl rfl ?_
    refine Sq.indexS (j := ((a.s : Nat) : Int)) (len := L.length) tab_ok rfl (by omega) (by omega) ?_
    refine zE tab_ok rfl rfl ?_
    refine Sq.loadS (v := int p.2) tab_ok rfl (by rw [Int.toNat_natCast]; exact hp1) ?_
    refine zE tab_ok rfl rfl ?_
    rw [hw1]
    refine Sq.indexS (j := ((a.s : Nat) : Int)) (len := L.length) tab_ok rfl (by omega) (by omega) ?_
    refine zE tab_ok rfl rfl ?_
    refine Sq.storeS tab_ok rfl (by show ((a.s : Nat) : Int).toNat * 2 + 1 < _; rw [List.length_append, flt_len]; omega) ?_
    refine zN ?_
    have hset' : (fltL L ++ U).set (((a.s : Nat) : Int).toNat * 2 + 1) (int (p.2 + 1)) = fltL (L.set a.s (p.1, p.2 + 1)) ++ U := by rw [Int.toNat_natCast]; exact hset
    have hLl : (L.set a.s (p.1, p.2 + 1)).length = L.length := List.length_set
    refine Tr.sub (m' := [(.s 7, .sl (.l 1000) L.length cap), (.l 1000, .blk 88 (fltL (L.set a.s (p.1, p.2 + 1)) ++ U))]) ⟨rfl, by rw [← hset']; rfl, trivial⟩ ?_
    generalize L.set a.s (p.1, p.2 + 1) = L' at *
    refine Tr.turn (fun Γ a w h => RelX.freeze (es := 2) (xs := L'.map pT') (cap := cap) (len := L.length) (cells := fltL L' ++ U) h (s := 7) (κ := .l 1000) rfl rfl rfl (by rw [List.length_map]; exact hLl) (by rw [List.length_append, flt_len]; omega) (by intro x hx; obtain ⟨a, _, rfl⟩ := List.mem_map.1 hx; rfl) (flt_hc L' U)) ?_
    repeat' (first|refine zS ?_|refine zR ?_|refine zE tab_ok rfl rfl ?_|refine zN ?_|(refine zG rfl rfl (fun _ => ?_) fun _ => ?_)<;>refine zE tab_ok rfl rfl ?_|(refine zC rfl (fun _ => ?_) fun _ => ?_)<;>try (rename_i h; cases h; done)|refine zB ?_|refine zK ?_|refine zZ ⟨_, rfl, ?_⟩)
    rfl
end Go.Lg.Tryz

set_option linter.unusedVariables false
set_option linter.unusedSimpArgs false
namespace Go.Lg.Tryz
open Go Go.Proofs Go.RowKit Go.Lib Go.Lg.Sem
def chs (g : BitVec 64) (l : List Stp) (k : Nat) : List Stp := (List.range k).filterMap fun j => if g.getLsbD j then l[j]? else none
theorem chs_succ {g : BitVec 64} {l : List Stp} {k : Nat} {a : Stp} (ha : l[k]? = some a) : chs g l (k + 1) = chs g l k ++ (if g.getLsbD k then [a] else []) := by
  unfold chs
  rw [List.range_succ, List.filterMap_append]
  congr 1
  cases h : g.getLsbD k
  · simp [h]
  · simp [h, ha]
theorem chs_len (g : BitVec 64) (l : List Stp) (k : Nat) : (chs g l k).length ≤ k := by
  unfold chs
  exact Nat.le_trans (List.length_filterMap_le _ _) (by simp)
def fleetL (c : Ctl) (f t : List Int) (ch : List Stp) : List (Int × Int) := (List.range f.length).map (fleetAt c f t ch)
theorem fleetL_at (c : Ctl) (f t : List Int) (ch : List Stp) {i : Nat} (hi : i < f.length) : (fleetL c f t ch)[i]? = some (fleetAt c f t ch i) := by
  unfold fleetL; rw [List.getElem?_map, List.getElem?_range hi]; rfl
theorem fleetL_len (c : Ctl) (f t : List Int) (ch : List Stp) : (fleetL c f t ch).length = f.length := by unfold fleetL; simp
theorem fleet_snoc (c : Ctl) (f t : List Int) (ch : List Stp) (a : Stp) (i : Nat) : fleetAt c f t (ch ++ [a]) i = if a.s = i then (if a.k = 2 then ((fleetAt c f t ch i).1 + (vAt t i - vAt f i), (fleetAt c f t ch i).2) else ((fleetAt c f t ch i).1, (fleetAt c f t ch i).2 + 1)) else fleetAt c f t ch i := by
  unfold fleetAt
  rw [cnt2_snoc, cntF_snoc]
  by_cases h : a.s = i
  · rw [if_pos h]
    by_cases h2 : a.k = 2
    · rw [if_pos ⟨h, h2⟩, if_neg (by simp [h2]), if_pos h2]
      simp only [Nat.add_zero, Prod.mk.injEq, and_true]
      rw [Int.natCast_add, Int.add_mul]; simp; omega
    · rw [if_neg (by simp [h2]), if_pos ⟨h, h2⟩, if_neg h2]
      simp only [Nat.add_zero, Prod.mk.injEq, true_and]
      omega
  · rw [if_neg (by simp [h]), if_neg (by simp [h]), if_neg h]; simp
theorem moved_fleet (c : Ctl) (f t : List Int) (ch : List Stp) (a : Stp) (ha : a.s < f.length) : movedV f t a (fleetL c f t ch) = fleetL c f t (ch ++ [a]) := by
  apply List.ext_getElem?
  intro i
  have hm : movedV f t a (fleetL c f t ch) = if a.k = 2 then (fleetL c f t ch).set a.s ((fleetAt c f t ch a.s).1 + (vAt t a.s - vAt f a.s), (fleetAt c f t ch a.s).2) else (fleetL c f t ch).set a.s ((fleetAt c f t ch a.s).1, (fleetAt c f t ch a.s).2 + 1) := by
    unfold movedV; rw [fleetL_at c f t ch ha]
  rw [hm]
  by_cases hi : i < f.length
  · rw [fleetL_at c f t _ hi, fleet_snoc]
    by_cases h : a.s = i
    · subst h
      rw [if_pos rfl]
      split
      · rw [List.getElem?_set_self (by rw [fleetL_len]; exact ha)]
      · rw [List.getElem?_set_self (by rw [fleetL_len]; exact ha)]
    · rw [if_neg h]
      split
      · rw [List.getElem?_set_ne h, fleetL_at c f t _ hi]
      · rw [List.getElem?_set_ne h, fleetL_at c f t _ hi]
  · rw [List.getElem?_eq_none (by split <;> rw [List.length_set, fleetL_len] <;> omega), List.getElem?_eq_none (by rw [fleetL_len]; omega)]
theorem cnt_le (ch : List Stp) (i : Nat) : cnt2 ch i ≤ ch.length ∧ cntF ch i ≤ ch.length := ⟨List.length_filter_le _ _, List.length_filter_le _ _⟩
theorem fleet0 {c : Ctl} {f : List Int} (t : List Int) (hr : rightV c f = true) : (fleetL c f t []).map pT' = (pls c f).map rPl := by
  apply List.ext_getElem?
  intro i
  by_cases hi : i < f.length
  · obtain ⟨v, s, r, hv, hs, hv0, hrv, hrel⟩ := (rightV_at hr).2 i hi
    have e : plAt c f i = ⟨floatOfInt .f64 v, floatOfInt .f64 (2 * r.level), v, 2 * r.level⟩ := by unfold plAt; rw [hv]; simp only; rw [hrel]
    have h1 : (pls c f)[i]? = some (plAt c f i) := by unfold pls; rw [List.getElem?_map, List.getElem?_range hi]; rfl
    rw [List.getElem?_map, List.getElem?_map, fleetL_at c f t [] hi, h1, e]
    show some (pT (vAt f i + ((0 : Nat) : Int) * (vAt t i - vAt f i)) (2 * lvl c i (vAt f i) + ((0 : Nat) : Int))) = some (pT v (2 * r.level))
    rw [vAt_of hv]
    have : lvl c i v = r.level := by unfold lvl; rw [hrel]
    rw [this]
    simp
  · rw [List.getElem?_eq_none (by rw [List.length_map, fleetL_len]; omega), List.getElem?_eq_none (by rw [List.length_map]; unfold pls; simp; omega)]
theorem refFleet_ok {c : Ctl} (hc : c.length ≤ 1000) (hlv : LvOk c) {f t : List Int} (hf : rightV c f = true) (ht : rightV c t = true) (l : List Stp) (e : List (Nat × Nat)) (hl : l.length ≤ 63) (hin : ∀ a, a ∈ l → a.s < f.length ∧ a.k ≤ 3) (g : BitVec 64) :
    Fn Tryz.prog Gw 29 [.tr (ctlT c), .tr (plnT ⟨f, t, l, e⟩), u64 g] [] (· = .tr (.ls ((fleetL c f t (chs g l l.length)).map pT'))) := by
  have hS := refSettled_ok (by omega) hlv f hf
  rw [← pls_r, ← fleet0 t hf] at hS
  obtain ⟨hfl, hfa⟩ := rightV_at hf
  obtain ⟨htl, hta⟩ := rightV_at ht
  refine Fn.of tab_ok Tryz.func29 rfl (by decide) (by simp [Tryz.f29]) rfl (fun κ v h => by cases h) Gw.below ?_
  repeat' (first|refine zS ?_|refine zR ?_|refine zE tab_ok rfl rfl ?_|refine zN ?_|(refine zG rfl rfl (fun _ => ?_) fun _ => ?_)<;>refine zE tab_ok rfl rfl ?_|(refine zC rfl (fun _ => ?_) fun _ => ?_)<;>try (rename_i h; cases h; done)|refine zB ?_|refine zK ?_|refine zZ ⟨_, rfl, ?_⟩)
  refine Sq.callv rfl (hS) ?_
  repeat' (first|refine zS ?_|refine zR ?_|refine zE tab_ok rfl rfl ?_|refine zN ?_|(refine zG rfl rfl (fun _ => ?_) fun _ => ?_)<;>refine zE tab_ok rfl rfl ?_|(refine zC rfl (fun _ => ?_) fun _ => ?_)<;>try (rename_i h; cases h; done)|refine zB ?_|refine zK ?_|refine zZ ⟨_, rfl, ?_⟩)
  refine Tr.loopS (fun k : Nat => [(.s 2, u64 g), (.s 3, .ptr (.l 3) 0), (.l 3, .blk 29 [.tr (.ls (c.map svcT))]), (.s 4, .ptr (.l 4) 0), (.l 4, .blk 41 [.tr (.ls (f.map intT)), .tr (.ls (t.map intT)), .tr (.ls (l.map stpT)), .tr (.ls (e.map edT))]), (.s 7, .tr (.ls ((fleetL c f t (chs g l k)).map pT'))), (.s 8, int k)]) (fun k => l.length - k) (fun k => k ≤ l.length)
    0 (by omega) (Sub.app (l := [_, _, _, _, _, _, _]) (H := []) ⟨rfl, rfl, rfl, rfl, rfl, rfl, rfl, trivial⟩ (fun κ v h => nomatch h)) ?_
  rintro k hk
  repeat' (first|refine zS ?_|refine zR ?_|refine zE tab_ok rfl rfl ?_|refine zN ?_|(refine zG rfl rfl (fun _ => ?_) fun _ => ?_)<;>refine zE tab_ok rfl rfl ?_|(refine zC rfl (fun _ => ?_) fun _ => ?_)<;>try (rename_i h; cases h; done)|refine zB ?_|refine zK ?_|refine zZ ⟨_, rfl, ?_⟩)
  · rename_i h2
    have h2 : decide ((k : Int) < ((l.map stpT).length : Int)) = true := h2
    have hlt : k < l.length := by simp only [List.length_map, decide_eq_true_eq] at h2; omega
    obtain ⟨a, ha⟩ : ∃ a, l[k]? = some a := ⟨_, List.getElem?_eq_getElem hlt⟩
    obtain ⟨a1, a2⟩ := hin a (List.mem_of_getElem? ha)
    obtain ⟨v, s, r, hv, hs, hv0, hr, hrel⟩ := hfa a.s a1
    obtain ⟨w, s', r', hw, hs', hw0, hr', hrel'⟩ := hta a.s (by omega)
    obtain ⟨hs12, hsl⟩ := hlv s (List.mem_of_getElem? hs)
    obtain ⟨hs12', _⟩ := hlv s' (List.mem_of_getElem? hs')
    obtain ⟨l0, l1⟩ := hsl r (List.mem_of_getElem? hr)
    have hvl := (List.getElem?_eq_some_iff.1 hr).1
    have hwl := (List.getElem?_eq_some_iff.1 hr').1
    have hIn := In_ok g k (by omega)
    have hsc := chs_succ (g := g) ha
    cases hb : g.getLsbD k
    · rw [hb] at hIn hsc
      have hsc : chs g l (k + 1) = chs g l k := by rw [hsc]; simp
      refine Sq.callv rfl (hIn) ?_
      repeat' (first|refine zS ?_|refine zR ?_|refine zE tab_ok rfl rfl ?_|refine zN ?_|(refine zG rfl rfl (fun _ => ?_) fun _ => ?_)<;>refine zE tab_ok rfl rfl ?_|(refine zC rfl (fun _ => ?_) fun _ => ?_)<;>try (rename_i h; cases h; done)|refine zB ?_|refine zK ?_|refine zZ ⟨_, rfl, ?_⟩)
      exact ⟨k + 1, by omega, by omega, Sub.app (l := [_, _, _, _, _, _, _]) (H := []) ⟨rfl, rfl, rfl, rfl, rfl, by rw [hsc]; rfl, congrArg some (wrapz (by omega) (by omega) (by omega)), trivial⟩ (fun κ v h => nomatch h)⟩
    · rw [hb] at hIn hsc
      have hsc : chs g l (k + 1) = chs g l k ++ [a] := hsc
      have hcl := chs_len g l k
      obtain ⟨c2, cF⟩ := cnt_le (chs g l k) a.s
      have hlvl : lvl c a.s v = r.level := by unfold lvl; rw [hrel]
      have e1 : (fleetAt c f t (chs g l k) a.s).1 = v + (cnt2 (chs g l k) a.s : Int) * (w - v) := by unfold fleetAt; simp only; rw [vAt_of hv, vAt_of hw]
      have e2 : (fleetAt c f t (chs g l k) a.s).2 = 2 * r.level + (cntF (chs g l k) a.s : Int) := by unfold fleetAt; simp only; rw [vAt_of hv, hlvl]
      have hmul : -(63 * 12 : Int) ≤ (cnt2 (chs g l k) a.s : Int) * (w - v) ∧ (cnt2 (chs g l k) a.s : Int) * (w - v) ≤ 63 * 12 := by
        have hn0 : (0 : Int) ≤ (cnt2 (chs g l k) a.s : Int) := by omega
        have h1 : (cnt2 (chs g l k) a.s : Int) * (w - v) ≤ (cnt2 (chs g l k) a.s : Int) * 12 := Int.mul_le_mul_of_nonneg_left (by omega) hn0
        have h2 : (cnt2 (chs g l k) a.s : Int) * (-12) ≤ (cnt2 (chs g l k) a.s : Int) * (w - v) := Int.mul_le_mul_of_nonneg_left (by omega) hn0
        omega
      have hM := Moved_ok f t l e (fleetL c f t (chs g l k)) ha a2 (fleetL_at c f t _ a1) hv hw (by rw [e1]; omega) (by rw [e2]; omega) (by omega) (by omega) (by rw [fleetL_len]; omega) (by omega)
      rw [moved_fleet c f t _ a a1, ← hsc] at hM
      refine Sq.callv rfl (hIn) ?_
      repeat' (first|refine zS ?_|refine zR ?_|refine zE tab_ok rfl rfl ?_|refine zN ?_|(refine zG rfl rfl (fun _ => ?_) fun _ => ?_)<;>refine zE tab_ok rfl rfl ?_|(refine zC rfl (fun _ => ?_) fun _ => ?_)<;>try (rename_i h; cases h; done)|refine zB ?_|refine zK ?_|refine zZ ⟨_, rfl, ?_⟩)
      refine Sq.callv rfl (hM) ?_
      repeat' (first|refine zS ?_|refine zR ?_|refine zE tab_ok rfl rfl ?_|refine zN ?_|(refine zG rfl rfl (fun _ => ?_) fun _ => ?_)<;>refine zE tab_ok rfl rfl ?_|(refine zC rfl (fun _ => ?_) fun _ => ?_)<;>try (rename_i h; cases h; done)|refine zB ?_|refine zK ?_|refine zZ ⟨_, rfl, ?_⟩)
      exact ⟨k + 1, by omega, by omega, Sub.app (l := [_, _, _, _, _, _, _]) (H := []) ⟨rfl, rfl, rfl, rfl, rfl, rfl, congrArg some (wrapz (by omega) (by omega) (by omega)), trivial⟩ (fun κ v h => nomatch h)⟩
  · rename_i h2
    have h2 : decide ((k : Int) < ((l.map stpT).length : Int)) = false := h2
    have : k = l.length := by simp only [List.length_map, decide_eq_false_iff_not] at h2; omega
    subst this
    refine Tr.exit ?_
    repeat' (first|refine zS ?_|refine zR ?_|refine zE tab_ok rfl rfl ?_|refine zN ?_|(refine zG rfl rfl (fun _ => ?_) fun _ => ?_)<;>refine zE tab_ok rfl rfl ?_|(refine zC rfl (fun _ => ?_) fun _ => ?_)<;>try (rename_i h; cases h; done)|refine zB ?_|refine zK ?_|refine zZ ⟨_, rfl, ?_⟩)
    rfl
def closedB (es : List (Nat × Nat)) (g : BitVec 64) : Bool := es.all fun p => !g.getLsbD p.2 || g.getLsbD p.1
theorem refClosed_ok (n : Nat) (es : List (Nat × Nat)) (g : BitVec 64) (hn : n ≤ 64) (hl : es.length ≤ 4096) (hp : ∀ p, p ∈ es → p.1 < n ∧ p.2 < n) : Fn Tryz.prog Gw 26 [.tr (grT n es), u64 g] [] (· = bool (closedB es g)) := by
  refine Fn.of tab_ok Tryz.func26 rfl (by decide) (by simp [Tryz.f26]) rfl (fun κ v h => by cases h) Gw.below ?_
  repeat' (first|refine zS ?_|refine zR ?_|refine zE tab_ok rfl rfl ?_|refine zN ?_|(refine zG rfl rfl (fun _ => ?_) fun _ => ?_)<;>refine zE tab_ok rfl rfl ?_|(refine zC rfl (fun _ => ?_) fun _ => ?_)<;>try (rename_i h; cases h; done)|refine zB ?_|refine zK ?_|refine zZ ⟨_, rfl, ?_⟩)
  refine Tr.loopS (fun k : Nat => [(.s 1, u64 g), (.s 2, .ptr (.l 2) 0), (.l 2, .blk 69 [int n, .tr (.ls (es.map edT))]), (.s 5, int k)]) (fun k => es.length - k) (fun k => k ≤ es.length ∧ (es.take k).all (fun p => !g.getLsbD p.2 || g.getLsbD p.1) = true)
    0 ⟨by omega, rfl⟩ (Sub.app (l := [_, _, _, _]) (H := []) ⟨rfl, rfl, rfl, rfl, trivial⟩ (fun κ v h => nomatch h)) ?_
  rintro k ⟨hk, hall⟩
  repeat' (first|refine zS ?_|refine zR ?_|refine zE tab_ok rfl rfl ?_|refine zN ?_|(refine zG rfl rfl (fun _ => ?_) fun _ => ?_)<;>refine zE tab_ok rfl rfl ?_|(refine zC rfl (fun _ => ?_) fun _ => ?_)<;>try (rename_i h; cases h; done)|refine zB ?_|refine zK ?_|refine zZ ⟨_, rfl, ?_⟩)
  · rename_i h2
    have h2 : decide ((k : Int) < ((es.map edT).length : Int)) = true := h2
    have hlt : k < es.length := by simp only [List.length_map, decide_eq_true_eq] at h2; omega
    obtain ⟨⟨u, v⟩, hpk⟩ : ∃ p, es[k]? = some p := ⟨_, List.getElem?_eq_getElem hlt⟩
    have hpe : (es.map edT)[((k : Nat) : Int).toNat]? = some (edT (u, v)) := by simp [hpk]
    obtain ⟨p1, p2⟩ := hp _ (List.mem_of_getElem? hpk)
    have p1 : u < n := p1
    have p2 : v < n := p2
    have hI1 := In_ok g u (by omega)
    have hI2 := In_ok g v (by omega)
    have htk : (es.take (k + 1)).all (fun p => !g.getLsbD p.2 || g.getLsbD p.1) = ((es.take k).all (fun p => !g.getLsbD p.2 || g.getLsbD p.1) && (!g.getLsbD v || g.getLsbD u)) := by
      rw [List.take_add_one, hpk, List.all_append]; simp
    have bad : (!g.getLsbD v || g.getLsbD u) = false → closedB es g = false := fun h => by
      unfold closedB
      rw [← Bool.not_eq_true, List.all_eq_true]
      intro hh
      have := hh _ (List.mem_of_getElem? hpk)
      rw [h] at this; cases this
    rw [hall, Bool.true_and] at htk
    generalize g.getLsbD v = bv at *
    generalize g.getLsbD u = bu at *
    refine zI (x := edT (u, v)) tab_ok rfl (by omega) (hpe) rfl ?_
    refine Sq.indexAE tab_ok rfl (by omega) (by omega) ?_
    refine zE tab_ok rfl rfl ?_
    refine Sq.callv rfl (hI2) ?_
    cases bv
    · repeat' (first|refine zS ?_|refine zR ?_|refine zE tab_ok rfl rfl ?_|refine zN ?_|(refine zG rfl rfl (fun _ => ?_) fun _ => ?_)<;>refine zE tab_ok rfl rfl ?_|(refine zC rfl (fun _ => ?_) fun _ => ?_)<;>try (rename_i h; cases h; done)|refine zB ?_|refine zK ?_|refine zZ ⟨_, rfl, ?_⟩)
      exact ⟨k + 1, ⟨by omega, htk⟩, by omega, Sub.app (l := [_, _, _, _]) (H := []) ⟨rfl, rfl, rfl, congrArg some (wrapz (by omega) (by omega) (by omega)), trivial⟩ (fun κ v h => nomatch h)⟩
    · repeat' (first|refine zS ?_|refine zR ?_|refine zE tab_ok rfl rfl ?_|refine zN ?_|(refine zG rfl rfl (fun _ => ?_) fun _ => ?_)<;>refine zE tab_ok rfl rfl ?_|(refine zC rfl (fun _ => ?_) fun _ => ?_)<;>try (rename_i h; cases h; done)|refine zB ?_|refine zK ?_|refine zZ ⟨_, rfl, ?_⟩)
      refine zI (x := edT (u, v)) tab_ok rfl (by omega) (hpe) rfl ?_
      refine Sq.indexAE tab_ok rfl (by omega) (by omega) ?_
      refine zE tab_ok rfl rfl ?_
      refine Sq.callv rfl (hI1) ?_
      cases bu
      · rw [bad rfl]
        repeat' (first|refine zS ?_|refine zR ?_|refine zE tab_ok rfl rfl ?_|refine zN ?_|(refine zG rfl rfl (fun _ => ?_) fun _ => ?_)<;>refine zE tab_ok rfl rfl ?_|(refine zC rfl (fun _ => ?_) fun _ => ?_)<;>try (rename_i h; cases h; done)|refine zB ?_|refine zK ?_|refine zZ ⟨_, rfl, ?_⟩)
        rfl
      · repeat' (first|refine zS ?_|refine zR ?_|refine zE tab_ok rfl rfl ?_|refine zN ?_|(refine zG rfl rfl (fun _ => ?_) fun _ => ?_)<;>refine zE tab_ok rfl rfl ?_|(refine zC rfl (fun _ => ?_) fun _ => ?_)<;>try (rename_i h; cases h; done)|refine zB ?_|refine zK ?_|refine zZ ⟨_, rfl, ?_⟩)
        exact ⟨k + 1, ⟨by omega, htk⟩, by omega, Sub.app (l := [_, _, _, _]) (H := []) ⟨rfl, rfl, rfl, congrArg some (wrapz (by omega) (by omega) (by omega)), trivial⟩ (fun κ v h => nomatch h)⟩
  · rename_i h2
    have h2 : decide ((k : Int) < ((es.map edT).length : Int)) = false := h2
    have : k = es.length := by simp only [List.length_map, decide_eq_false_iff_not] at h2; omega
    subst this
    rw [List.take_of_length_le (Nat.le_refl _)] at hall
    refine Tr.exit ?_
    repeat' (first|refine zS ?_|refine zR ?_|refine zE tab_ok rfl rfl ?_|refine zN ?_|(refine zG rfl rfl (fun _ => ?_) fun _ => ?_)<;>refine zE tab_ok rfl rfl ?_|(refine zC rfl (fun _ => ?_) fun _ => ?_)<;>try (rename_i h; cases h; done)|refine zB ?_|refine zK ?_|refine zZ ⟨_, rfl, ?_⟩)
    show bool true = bool (closedB es g)
    unfold closedB; rw [hall]
end Go.Lg.Tryz

set_option linter.unusedVariables false
set_option linter.unusedSimpArgs false
namespace Go.Lg.Tryz
open Go Go.Proofs Go.RowKit Go.Lib Go.Lg.Sem
def toPl (p : Int × Int) : Pl := ⟨0, 0, p.1, p.2⟩
theorem toPl_r (L : List (Int × Int)) : (L.map toPl).map rPl = L.map pT' := by rw [List.map_map]; rfl
theorem cls_good {c : Ctl} {f t : List Int} {ch : List Stp} (he : Ends0 c f t) (hlv : LvOk c) (hc : Cls c f t ch) : goodB c ((fleetL c f t ch).map toPl) = true := by
  have hl := (rightV_at he.rf).1
  unfold goodB
  rw [List.length_map, fleetL_len, decide_eq_true hl, Bool.true_and, List.all_eq_true]
  intro i hi
  have hi := List.mem_range.1 hi
  have hat : ∀ j, j < f.length → ((fleetL c f t ch).map toPl)[j]? = some (toPl (fleetAt c f t ch j)) := fun j hj => by rw [List.getElem?_map, fleetL_at c f t ch hj]; rfl
  unfold goodAt
  rw [hat i hi]
  simp only [Bool.and_eq_true, List.all_eq_true]
  refine ⟨cls_stands he hlv hc hi, fun j hj => ?_⟩
  have hj := List.mem_range.1 hj
  rw [hat j (by omega)]
  exact cls_fits he hlv hc hi (by omega) (by omega)
theorem chs_mem {g : BitVec 64} {l : List Stp} {n : Nat} {a : Stp} : a ∈ chs g l n ↔ ∃ j, j < n ∧ g.getLsbD j = true ∧ l[j]? = some a := by
  unfold chs
  rw [List.mem_filterMap]
  constructor
  · rintro ⟨j, hj, h⟩
    cases hb : g.getLsbD j
    · rw [hb] at h; cases h
    · rw [hb] at h; exact ⟨j, List.mem_range.1 hj, hb, h⟩
  · rintro ⟨j, hj, hb, h⟩
    exact ⟨j, List.mem_range.2 hj, by rw [hb]; exact h⟩
theorem chs_nodup {g : BitVec 64} {l : List Stp} (hl : l.Nodup) : ∀ n, (chs g l n).Nodup := by
  intro n
  induction n with
  | zero => exact List.nodup_nil
  | succ n ih =>
    cases ha : l[n]? with
    | none =>
      have : chs g l (n + 1) = chs g l n := by
        unfold chs
        rw [List.range_succ, List.filterMap_append]
        simp [ha]
      rw [this]; exact ih
    | some a =>
      rw [chs_succ ha]
      split
      · rw [List.nodup_append]
        refine ⟨ih, by simp, fun b hb d hd => ?_⟩
        rw [List.mem_singleton] at hd
        subst hd
        rintro rfl
        obtain ⟨j, hj, _, hja⟩ := chs_mem.1 hb
        obtain ⟨h1, h2⟩ := List.getElem?_eq_some_iff.1 hja
        obtain ⟨h3, h4⟩ := List.getElem?_eq_some_iff.1 ha
        have := (List.getElem_inj hl).1 (h2.trans h4.symm)
        omega
      · rw [List.append_nil]; exact ih
theorem closed_way {es : List (Nat × Nat)} {g : BitVec 64} (h : closedB es g = true) {i k : Nat} (hw : EdgeWay es i k) : g.getLsbD k = true → g.getLsbD i = true := by
  unfold closedB at h
  rw [List.all_eq_true] at h
  have one : ∀ a b, (a, b) ∈ es → g.getLsbD b = true → g.getLsbD a = true := fun a b he hb => by
    have := h _ he
    rw [hb] at this; simpa using this
  induction hw with
  | one e => exact one _ _ e
  | snoc _ e ih => exact fun hb => ih (one _ _ e hb)
theorem chs_cls {c : Ctl} {f t : List Int} {e : List (Nat × Nat)} {g : BitVec 64} (hr : RchP c f t (stepsV c f t) e) (hc : closedB e g = true) : Cls c f t (chs g (stepsV c f t) (stepsV c f t).length) where
  nodup := chs_nodup (stepsUp_nodup c f t _) _
  sub a ha := by
    obtain ⟨j, _, _, h⟩ := chs_mem.1 ha
    exact List.mem_of_getElem? h
  clo a b ha hab hb := by
    obtain ⟨k, hk, hbk, hb'⟩ := chs_mem.1 hb
    obtain ⟨i, hi⟩ := List.mem_iff_getElem?.1 ha
    exact chs_mem.2 ⟨i, (List.getElem?_eq_some_iff.1 hi).1, closed_way hc (hr i k a b hi hb' hab) hbk, hi⟩
theorem steps_adj (c : Ctl) (f t : List Int) : ∀ (n k : Nat) (a b : Stp), (stepsUp c f t n)[k]? = some a → (stepsUp c f t n)[k + 1]? = some b → a.s = b.s → b.k = a.k + 1 := by
  intro n
  induction n with
  | zero => intro k a b h; simp [stepsUp] at h
  | succ n ih =>
    intro k a b ha hb hs
    rw [stepsUp_succ] at ha hb
    rcases Nat.lt_or_ge (k + 1) (stepsUp c f t n).length with h | h
    · rw [List.getElem?_append_left (by omega)] at ha hb
      exact ih k a b ha hb hs
    · rw [List.getElem?_append_right h] at hb
      have hbn := (stepsAt_mem (List.mem_of_getElem? hb)).1
      rcases Nat.lt_or_ge k (stepsUp c f t n).length with h2 | h2
      · rw [List.getElem?_append_left h2] at ha
        have := (stepsUp_mem.1 (List.mem_of_getElem? ha)).1
        omega
      · rw [List.getElem?_append_right h2] at ha
        rw [show k + 1 - (stepsUp c f t n).length = (k - (stepsUp c f t n).length) + 1 by omega] at hb
        generalize k - (stepsUp c f t n).length = j at *
        unfold stepsAt at ha hb
        split at ha
        · cases ha
        · rename_i h3
          rw [if_neg h3] at hb
          split at ha
          · rename_i h4
            rw [if_pos h4] at hb
            cases hb
          · rename_i h4
            rw [if_neg h4] at hb
            match j with
            | 0 => simp at ha hb; subst ha; subst hb; rfl
            | 1 => simp at ha hb; subst ha; subst hb; rfl
            | j + 2 => simp at hb
theorem refGRight_ok (n : Nat) (es : List (Nat × Nat)) (hn : n ≤ 64) (hl : es.length ≤ 4096) (hp : ∀ p, p ∈ es → p.1 < n ∧ p.2 < n) : Fn Tryz.prog Gw 57 [.tr (grT n es)] [] (· = bool true) := by
  refine Fn.of tab_ok Tryz.func57 rfl (by decide) (by simp [Tryz.f57]) rfl (fun κ v h => by cases h) Gw.below ?_
  repeat' (first|refine zS ?_|refine zR ?_|refine zE tab_ok rfl rfl ?_|refine zN ?_|(refine zG rfl rfl (fun _ => ?_) fun _ => ?_)<;>refine zE tab_ok rfl rfl ?_|(refine zC rfl (fun _ => ?_) fun _ => ?_)<;>try (rename_i h; cases h; done)|refine zB ?_|refine zK ?_|refine zZ ⟨_, rfl, ?_⟩)
  · exfalso; simp only [decide_eq_true_eq, decide_eq_false_iff_not, List.length_map] at *; omega
  · exfalso; simp only [decide_eq_true_eq, decide_eq_false_iff_not, List.length_map] at *; omega
  refine Tr.loopS (fun k : Nat => [(.s 1, .ptr (.l 1) 0), (.l 1, .blk 69 [int n, .tr (.ls (es.map edT))]), (.s 3, int k)]) (fun k => es.length - k)
    (fun k => k ≤ es.length) 0 (by omega) (Sub.app (l := [_, _, _]) (H := []) ⟨rfl, rfl, rfl, trivial⟩ (fun κ v h => nomatch h)) ?_
  rintro k hk
  repeat' (first|refine zS ?_|refine zR ?_|refine zE tab_ok rfl rfl ?_|refine zN ?_|(refine zG rfl rfl (fun _ => ?_) fun _ => ?_)<;>refine zE tab_ok rfl rfl ?_|(refine zC rfl (fun _ => ?_) fun _ => ?_)<;>try (rename_i h; cases h; done)|refine zB ?_|refine zK ?_|refine zZ ⟨_, rfl, ?_⟩)
  · rename_i h2
    have h2 : decide ((k : Int) < ((es.map edT).length : Int)) = true := h2
    have hlt : k < es.length := by simp only [List.length_map, decide_eq_true_eq] at h2; omega
    obtain ⟨⟨u, v⟩, hpk⟩ : ∃ p, es[k]? = some p := ⟨_, List.getElem?_eq_getElem hlt⟩
    have hpe : (es.map edT)[((k : Nat) : Int).toNat]? = some (edT (u, v)) := by simp [hpk]
    obtain ⟨p1, p2⟩ := hp _ (List.mem_of_getElem? hpk)
    have p1 : u < n := p1
    have p2 : v < n := p2
    refine zI (x := edT (u, v)) tab_ok rfl (by omega) (hpe) rfl ?_
    refine Sq.indexAE tab_ok rfl (by omega) (by omega) ?_
    repeat' (first|refine zS ?_|refine zR ?_|refine zE tab_ok rfl rfl ?_|refine zN ?_|(refine zG rfl rfl (fun _ => ?_) fun _ => ?_)<;>refine zE tab_ok rfl rfl ?_|(refine zC rfl (fun _ => ?_) fun _ => ?_)<;>try (rename_i h; cases h; done)|refine zB ?_|refine zK ?_|refine zZ ⟨_, rfl, ?_⟩)
    refine zI (x := edT (u, v)) tab_ok rfl (by omega) (hpe) rfl ?_
    refine Sq.indexAE tab_ok rfl (by omega) (by omega) ?_
    repeat' (first|refine zS ?_|refine zR ?_|refine zE tab_ok rfl rfl ?_|refine zN ?_|(refine zG rfl rfl (fun _ => ?_) fun _ => ?_)<;>refine zE tab_ok rfl rfl ?_|(refine zC rfl (fun _ => ?_) fun _ => ?_)<;>try (rename_i h; cases h; done)|refine zB ?_|refine zK ?_|refine zZ ⟨_, rfl, ?_⟩)
    · exfalso; rename_i h4 _; have h4 := of_decide_eq_true h4; omega
    · exfalso; rename_i h4; have h4 := of_decide_eq_true h4; omega
    exact ⟨k + 1, by omega, by omega, Sub.app (l := [_, _, _]) (H := []) ⟨rfl, rfl, congrArg some (wrapz (by omega) (by omega) (by omega)), trivial⟩ (fun κ v h => nomatch h)⟩
  · refine Tr.exit ?_
    repeat' (first|refine zS ?_|refine zR ?_|refine zE tab_ok rfl rfl ?_|refine zN ?_|(refine zG rfl rfl (fun _ => ?_) fun _ => ?_)<;>refine zE tab_ok rfl rfl ?_|(refine zC rfl (fun _ => ?_) fun _ => ?_)<;>try (rename_i h; cases h; done)|refine zB ?_|refine zK ?_|refine zZ ⟨_, rfl, ?_⟩)
    rfl
end Go.Lg.Tryz

set_option linter.unusedVariables false
set_option linter.unusedSimpArgs false
namespace Go.Lg.Tryz
open Go Go.Proofs Go.RowKit Go.Lib Go.Lg.Sem
theorem ofNat_toNat {m : Nat} (h : m < 18446744073709551616) : ((BitVec.ofNat 64 m).toNat : Int) = (m : Int) := by
  rw [BitVec.toNat_ofNat, Nat.mod_eq_of_lt (by omega)]
open Classical in
noncomputable def waysL (n : Nat) (es : List (Nat × Nat)) (a : Nat) : List Bool := (List.range n).map fun y => decide (EdgeWay es a y)
theorem ways_at {n : Nat} {es : List (Nat × Nat)} {a y : Nat} (hy : y < n) (h : EdgeWay es a y) : (waysL n es a)[y]? = some true := by
  unfold waysL; rw [List.getElem?_map, List.getElem?_range hy]; simp [h]
theorem fn_mono {P : Program} {G : World → Prop} {f : FuncId} {args : List AV} {H : Store} {R R' : AV → Prop} (h : Fn P G f args H R) (hr : ∀ x, R x → R' x) : Fn P G f args H R' :=
  ⟨h.1, fun M Ow w cargs hg hp => (h.2 M Ow w cargs hg hp).mono fun e w' ⟨cv, he, hpost⟩ => ⟨cv, he, by
    obtain ⟨h1, h2⟩ := hpost
    refine ⟨h1, ?_⟩
    obtain ⟨a, b, hh⟩ := h2
    first
      | exact ⟨a, b, hr _ hh.1, hh.2⟩
      | (obtain ⟨c, hh⟩ := hh; exact ⟨a, b, c, hr _ hh.1, hh.2⟩)
      | (obtain ⟨c, d, hh⟩ := hh; exact ⟨a, b, c, d, hr _ hh.1, hh.2⟩)⟩⟩
theorem From_ways (n : Nat) (es : List (Nat × Nat)) (a : Nat) (ha : a < n) (hn : n ≤ 64) (hl : es.length ≤ 4096) (hp : ∀ p, p ∈ es → p.1 < n ∧ p.2 < n) :
    Fn Tryz.prog Gw 58 [.tr (grT n es), int a] [] (· = .tr (.ls ((waysL n es a).map boolT))) := by
  refine fn_mono (From_ok n es a ha hn hl hp) ?_
  rintro x ⟨o, rfl, hol, ho⟩
  have : o = waysL n es a := by
    apply List.ext_getElem?
    intro y
    by_cases hy : y < n
    · obtain ⟨b, hb⟩ : ∃ b, o[y]? = some b := ⟨_, List.getElem?_eq_getElem (by omega)⟩
      rw [hb]
      unfold waysL
      rw [List.getElem?_map, List.getElem?_range hy]
      have h := ho y
      rw [hb] at h
      cases b
      · have : ¬ EdgeWay es a y := fun hw => by have := h.2 hw; cases this
        simp [this]
      · have : EdgeWay es a y := h.1 rfl
        simp [this]
    · rw [List.getElem?_eq_none (by omega), List.getElem?_eq_none (by unfold waysL; simp; omega)]
  rw [this]
set_option maxRecDepth 8192 in
theorem refPCheck_ok {c : Ctl} (hok : Ctl.ok c) (hc : c.length ≤ 12) (hlv : LvOk c) {f t : List Int} (he : endsV c f t = 0) (e : List (Nat × Nat)) (hel : e.length ≤ 1000) (hl20 : (stepsV c f t).length ≤ 20)
    (hp : ∀ p, p ∈ e → p.1 < (stepsV c f t).length ∧ p.2 < (stepsV c f t).length) (hcyc : false = true ↔ CycP (stepsV c f t).length e) (hr : RchP c f t (stepsV c f t) e) :
    Fn Tryz.prog Gw 22 [.tr (ctlT c), .tr (plnT ⟨f, t, stepsV c f t, e⟩)] [] (· = int 0) := by
  have E := ends0 he
  have hE := refEnds_ok hok (by omega) hlv f t
  rw [he] at hE
  have hfl := (rightV_at E.rf).1
  have hS := refSteps_ok hlv E.rf E.rt (by omega) E.rise
  obtain ⟨_, hin⟩ := steps_facts (c := c) (t := t) (f := f) (by omega)
  have hadj := steps_adj c f t f.length
  have hGr := refPGraph_ok f t (stepsV c f t) e
  have hRt := refGRight_ok _ e (by omega) (by omega) hp
  have hCi := Circle_ok _ e (by omega) (by omega) hp false hcyc
  have hF := fun a (ha : a < (stepsV c f t).length) => From_ways _ e a ha (by omega) (by omega) hp
  have hCl := fun g => refClosed_ok _ e g (by omega) (by omega) hp
  have hFl := fun g => refFleet_ok (by omega) hlv E.rf E.rt (stepsV c f t) e (by omega) hin g
  have hGd : ∀ g, closedB e g = true → Fn Tryz.prog Gw 28 [.tr (ctlT c), .tr (.ls ((fleetL c f t (chs g (stepsV c f t) (stepsV c f t).length)).map pT'))] [] (· = bool true) := fun g hg => by
    have := refGood_ok hok hlv (by omega) ((fleetL c f t (chs g (stepsV c f t) (stepsV c f t).length)).map toPl)
    rw [toPl_r, cls_good E hlv (chs_cls hr hg)] at this
    exact this
  have hway : ∀ k a b, (stepsV c f t)[k]? = some a → (stepsV c f t)[k + 1]? = some b → a.s = b.s → EdgeWay e k (k + 1) := fun k a b ha hb hs => hr k (k + 1) a b ha hb (by unfold aheadS; rw [if_pos hs, beq_iff_eq]; exact hadj k a b ha hb hs)
  clear hadj hr hcyc hp
  generalize stepsV c f t = l at *
  have hpow : 2 ^ l.length ≤ 2 ^ 20 := Nat.pow_le_pow_right (by omega) hl20
  refine Fn.of tab_ok Tryz.func22 rfl (by decide) (by simp [Tryz.f22]) rfl (fun κ v h => by cases h) Gw.below ?_
  repeat' (first|refine zS ?_|refine zR ?_|refine zE tab_ok rfl rfl ?_|refine zN ?_|(refine zG rfl rfl (fun _ => ?_) fun _ => ?_)<;>refine zE tab_ok rfl rfl ?_|(refine zC rfl (fun _ => ?_) fun _ => ?_)<;>try (rename_i h; cases h; done)|refine zB ?_|refine zK ?_|refine zZ ⟨_, rfl, ?_⟩)
  refine Sq.callv rfl (hE) ?_
  repeat' (first|refine zS ?_|refine zR ?_|refine zE tab_ok rfl rfl ?_|refine zN ?_|(refine zG rfl rfl (fun _ => ?_) fun _ => ?_)<;>refine zE tab_ok rfl rfl ?_|(refine zC rfl (fun _ => ?_) fun _ => ?_)<;>try (rename_i h; cases h; done)|refine zB ?_|refine zK ?_|refine zZ ⟨_, rfl, ?_⟩)
  refine Sq.callv rfl (hS) ?_
  repeat' (first|refine zS ?_|refine zR ?_|refine zE tab_ok rfl rfl ?_|refine zN ?_|(refine zG rfl rfl (fun _ => ?_) fun _ => ?_)<;>refine zE tab_ok rfl rfl ?_|(refine zC rfl (fun _ => ?_) fun _ => ?_)<;>try (rename_i h; cases h; done)|refine zB ?_|refine zK ?_|refine zZ ⟨_, rfl, ?_⟩)
  · rename_i h; exfalso
    have h : (((l.map stpT).length : Int) != ((l.map stpT).length : Int)) = true := h
    simp at h
  refine Tr.loopS (fun k : Nat => [(.s 2, .ptr (.l 2) 0), (.l 2, .blk 29 [.tr (.ls (c.map svcT))]), (.s 3, .ptr (.l 3) 0), (.l 3, .blk 41 [.tr (.ls (f.map intT)), .tr (.ls (t.map intT)), .tr (.ls (l.map stpT)), .tr (.ls (e.map edT))]), (.s 6, .tr (.ls (l.map stpT))), (.s 7, int k)]) (fun k => l.length - k) (fun k => k ≤ l.length)
    0 (by omega) (Sub.app (l := [_, _, _, _, _, _]) (H := []) ⟨rfl, rfl, rfl, rfl, rfl, rfl, trivial⟩ (fun κ v h => nomatch h)) ?_
  rintro k hk
  repeat' (first|refine zS ?_|refine zR ?_|refine zE tab_ok rfl rfl ?_|refine zN ?_|(refine zG rfl rfl (fun _ => ?_) fun _ => ?_)<;>refine zE tab_ok rfl rfl ?_|(refine zC rfl (fun _ => ?_) fun _ => ?_)<;>try (rename_i h; cases h; done)|refine zB ?_|refine zK ?_|refine zZ ⟨_, rfl, ?_⟩)
  · rename_i h2
    have h2 : decide ((k : Int) < ((l.map stpT).length : Int)) = true := h2
    have hlt : k < l.length := by simp only [List.length_map, decide_eq_true_eq] at h2; omega
    obtain ⟨a, ha⟩ : ∃ a, l[k]? = some a := ⟨_, List.getElem?_eq_getElem hlt⟩
    have hae : (l.map stpT)[((k : Nat) : Int).toNat]? = some (stpT a) := by simp [ha]
    refine Tr.drawn ( zD tab_ok rfl rfl <| zD tab_ok rfl rfl <| zO rfl (fun q K hK => zI (x := stpT a) tab_ok rfl (by omega) (hae) rfl (zN hK)) <| zD tab_ok rfl rfl <| zD tab_ok rfl rfl <| zD tab_ok rfl rfl <| zD tab_ok rfl rfl <| zO rfl (fun q K hK => zI (x := stpT a) tab_ok rfl (by omega) (hae) rfl (zN hK)) <| zD tab_ok rfl rfl <| DSq.eqag rfl (fun _ => rfl) (by kernel_rfl) (fun w => eqA_rstp 9998 w _ _ _ _) <| DSq.nil _) mix_ok rfl ?_
    rw [stp_eq, decide_eq_true rfl]
    repeat' (first|refine zS ?_|refine zR ?_|refine zE tab_ok rfl rfl ?_|refine zN ?_|(refine zG rfl rfl (fun _ => ?_) fun _ => ?_)<;>refine zE tab_ok rfl rfl ?_|(refine zC rfl (fun _ => ?_) fun _ => ?_)<;>try (rename_i h; cases h; done)|refine zB ?_|refine zK ?_|refine zZ ⟨_, rfl, ?_⟩)
    exact ⟨k + 1, by omega, by omega, Sub.app (l := [_, _, _, _, _, _]) (H := []) ⟨rfl, rfl, rfl, rfl, rfl, congrArg some (wrapz (by omega) (by omega) (by omega)), trivial⟩ (fun κ v h => nomatch h)⟩
  refine Tr.exit ?_
  repeat' (first|refine zS ?_|refine zR ?_|refine zE tab_ok rfl rfl ?_|refine zN ?_|(refine zG rfl rfl (fun _ => ?_) fun _ => ?_)<;>refine zE tab_ok rfl rfl ?_|(refine zC rfl (fun _ => ?_) fun _ => ?_)<;>try (rename_i h; cases h; done)|refine zB ?_|refine zK ?_|refine zZ ⟨_, rfl, ?_⟩)
  refine Sq.callv rfl (hGr) ?_
  repeat' (first|refine zS ?_|refine zR ?_|refine zE tab_ok rfl rfl ?_|refine zN ?_|(refine zG rfl rfl (fun _ => ?_) fun _ => ?_)<;>refine zE tab_ok rfl rfl ?_|(refine zC rfl (fun _ => ?_) fun _ => ?_)<;>try (rename_i h; cases h; done)|refine zB ?_|refine zK ?_|refine zZ ⟨_, rfl, ?_⟩)
  refine Sq.callv rfl (hRt) ?_
  repeat' (first|refine zS ?_|refine zR ?_|refine zE tab_ok rfl rfl ?_|refine zN ?_|(refine zG rfl rfl (fun _ => ?_) fun _ => ?_)<;>refine zE tab_ok rfl rfl ?_|(refine zC rfl (fun _ => ?_) fun _ => ?_)<;>try (rename_i h; cases h; done)|refine zB ?_|refine zK ?_|refine zZ ⟨_, rfl, ?_⟩)
  refine Sq.callv rfl (hCi) ?_
  repeat' (first|refine zS ?_|refine zR ?_|refine zE tab_ok rfl rfl ?_|refine zN ?_|(refine zG rfl rfl (fun _ => ?_) fun _ => ?_)<;>refine zE tab_ok rfl rfl ?_|(refine zC rfl (fun _ => ?_) fun _ => ?_)<;>try (rename_i h; cases h; done)|refine zB ?_|refine zK ?_|refine zZ ⟨_, rfl, ?_⟩)
  refine Tr.loopS (fun k : Nat => [(.s 2, .ptr (.l 2) 0), (.l 2, .blk 29 [.tr (.ls (c.map svcT))]), (.s 3, .ptr (.l 3) 0), (.l 3, .blk 41 [.tr (.ls (f.map intT)), .tr (.ls (t.map intT)), .tr (.ls (l.map stpT)), .tr (.ls (e.map edT))]), (.s 6, .tr (.ls (l.map stpT))), (.s 8, .ptr (.l 8) 0), (.l 8, .blk 69 [int l.length, .tr (.ls (e.map edT))]), (.s 9, int k)]) (fun k => l.length - k) (fun k => k ≤ l.length)
    0 (by omega) (Sub.app (l := [_, _, _, _, _, _, _, _]) (H := []) ⟨rfl, rfl, rfl, rfl, rfl, rfl, rfl, rfl, trivial⟩ (fun κ v h => nomatch h)) ?_
  rintro k hk
  have hw1 : IntKind.i64.wrap ((k : Int) + 1) = ((k + 1 : Nat) : Int) := by rw [Go.IntWalk.i64_in _ ⟨by omega, by omega⟩]; rfl
  repeat' (first|refine zS ?_|refine zR ?_|refine zE tab_ok rfl rfl ?_|refine zN ?_|(refine zG rfl rfl (fun _ => ?_) fun _ => ?_)<;>refine zE tab_ok rfl rfl ?_|(refine zC rfl (fun _ => ?_) fun _ => ?_)<;>try (rename_i h; cases h; done)|refine zB ?_|refine zK ?_|refine zZ ⟨_, rfl, ?_⟩)
  · rename_i h2
    have h2 : decide (IntKind.i64.wrap ((k : Int) + 1) < ((l.map stpT).length : Int)) = true := h2
    rw [hw1] at h2
    have hlt : k + 1 < l.length := by simp only [List.length_map, decide_eq_true_eq] at h2; omega
    obtain ⟨a, ha⟩ : ∃ a, l[k]? = some a := ⟨_, List.getElem?_eq_getElem (by omega)⟩
    obtain ⟨b, hb⟩ : ∃ a, l[k + 1]? = some a := ⟨_, List.getElem?_eq_getElem hlt⟩
    have hae : (l.map stpT)[((k : Nat) : Int).toNat]? = some (stpT a) := by simp [ha]
    have hbe : (l.map stpT)[(((k + 1 : Nat) : Nat) : Int).toNat]? = some (stpT b) := by rw [Int.toNat_natCast]; exact (by rw [List.getElem?_map, hb]; rfl)
    by_cases hs : a.s = b.s
    · have hse : ((a.s : Int) == (b.s : Int)) = true := by rw [beq_iff_eq, hs]
      have hW := hway k a b ha hb hs
      have hFk := hF k (by omega)
      have hwe : ((waysL l.length e k).map boolT)[(((k + 1 : Nat) : Nat) : Int).toNat]? = some (boolT true) := by rw [Int.toNat_natCast, List.getElem?_map, ways_at hlt hW]; rfl
      generalize waysL l.length e k = W at *
      refine Tr.drawn ( zD tab_ok rfl rfl <| zD tab_ok rfl rfl <| zO rfl (fun q K hK => zI (x := stpT a) tab_ok rfl (by omega) (hae) rfl (zN hK)) <| zD tab_ok rfl rfl <| zD tab_ok rfl rfl <| zD tab_ok rfl rfl <| zD tab_ok rfl rfl <| DSq.evr tab_ok rfl (congrArg int hw1) <| zO rfl (fun q K hK => zI (x := stpT b) tab_ok rfl (by omega) (hbe) rfl (zN hK)) <| zD tab_ok rfl rfl <| zD tab_ok rfl rfl <| DSq.evr tab_ok rfl (congrArg bool hse) <| zD tab_ok rfl rfl <| zD tab_ok rfl rfl <| zD tab_ok rfl rfl <| DSq.call rfl (fun _ => rfl) (hFk) <| zD tab_ok rfl rfl <| DSq.evr tab_ok rfl (congrArg int hw1) <| zO rfl (fun q K hK => zI (x := boolT true) tab_ok rfl (by omega) (hwe) rfl (zN hK)) <| zD tab_ok rfl rfl <| zD tab_ok rfl rfl <| zD tab_ok rfl rfl <| DSq.nil _) mix_ok rfl ?_
      repeat' (first|refine zS ?_|refine zR ?_|refine zE tab_ok rfl rfl ?_|refine zN ?_|(refine zG rfl rfl (fun _ => ?_) fun _ => ?_)<;>refine zE tab_ok rfl rfl ?_|(refine zC rfl (fun _ => ?_) fun _ => ?_)<;>try (rename_i h; cases h; done)|refine zB ?_|refine zK ?_|refine zZ ⟨_, rfl, ?_⟩)
      exact ⟨k + 1, by omega, by omega, Sub.app (l := [_, _, _, _, _, _, _, _]) (H := []) ⟨rfl, rfl, rfl, rfl, rfl, rfl, rfl, congrArg some (wrapz (by omega) (by omega) (by omega)), trivial⟩ (fun κ v h => nomatch h)⟩
    · have hse : ((a.s : Int) == (b.s : Int)) = false := by rw [beq_eq_false_iff_ne]; omega
      refine Tr.drawn ( zD tab_ok rfl rfl <| zD tab_ok rfl rfl <| zO rfl (fun q K hK => zI (x := stpT a) tab_ok rfl (by omega) (hae) rfl (zN hK)) <| zD tab_ok rfl rfl <| zD tab_ok rfl rfl <| zD tab_ok rfl rfl <| zD tab_ok rfl rfl <| DSq.evr tab_ok rfl (congrArg int hw1) <| zO rfl (fun q K hK => zI (x := stpT b) tab_ok rfl (by omega) (hbe) rfl (zN hK)) <| zD tab_ok rfl rfl <| zD tab_ok rfl rfl <| DSq.evr tab_ok rfl (congrArg bool hse) <| zD tab_ok rfl rfl <| zD tab_ok rfl rfl <| zD tab_ok rfl rfl <| zD tab_ok rfl rfl <| zD tab_ok rfl rfl <| zD tab_ok rfl rfl <| zD tab_ok rfl rfl <| zD tab_ok rfl rfl <| zD tab_ok rfl rfl <| zD tab_ok rfl rfl <| DSq.nil _) mix_ok rfl ?_
      repeat' (first|refine zS ?_|refine zR ?_|refine zE tab_ok rfl rfl ?_|refine zN ?_|(refine zG rfl rfl (fun _ => ?_) fun _ => ?_)<;>refine zE tab_ok rfl rfl ?_|(refine zC rfl (fun _ => ?_) fun _ => ?_)<;>try (rename_i h; cases h; done)|refine zB ?_|refine zK ?_|refine zZ ⟨_, rfl, ?_⟩)
      exact ⟨k + 1, by omega, by omega, Sub.app (l := [_, _, _, _, _, _, _, _]) (H := []) ⟨rfl, rfl, rfl, rfl, rfl, rfl, rfl, congrArg some (wrapz (by omega) (by omega) (by omega)), trivial⟩ (fun κ v h => nomatch h)⟩
  refine Tr.exit ?_
  clear hF hway hw1
  refine zS ?_
  refine zR ?_
  refine zE tab_ok rfl rfl ?_
  refine zE tab_ok rfl rfl ?_
  have hml : (l.map stpT).length = l.length := List.length_map ..
  rw [hml]
  refine Sq.shift rfl 1#64 l.length rfl rfl (by omega) ?_
  have hall : (if true = true then 1#64 <<< l.length else 1#64 >>> l.length) = BitVec.ofNat 64 (2 ^ l.length) := by
    rw [if_pos rfl]
    apply BitVec.eq_of_toNat_eq
    rw [BitVec.toNat_shiftLeft, BitVec.toNat_ofNat, BitVec.toNat_ofNat, Nat.shiftLeft_eq]
    simp
  rw [hall]
  refine zE tab_ok rfl rfl ?_
  refine zN ?_
  repeat' (first|refine zS ?_|refine zR ?_|refine zE tab_ok rfl rfl ?_|refine zN ?_|(refine zG rfl rfl (fun _ => ?_) fun _ => ?_)<;>refine zE tab_ok rfl rfl ?_|(refine zC rfl (fun _ => ?_) fun _ => ?_)<;>try (rename_i h; cases h; done)|refine zB ?_|refine zK ?_|refine zZ ⟨_, rfl, ?_⟩)
  refine Tr.loopS (fun m : Nat => [(.s 2, .ptr (.l 2) 0), (.l 2, .blk 29 [.tr (.ls (c.map svcT))]), (.s 3, .ptr (.l 3) 0), (.l 3, .blk 41 [.tr (.ls (f.map intT)), .tr (.ls (t.map intT)), .tr (.ls (l.map stpT)), .tr (.ls (e.map edT))]), (.s 8, .ptr (.l 8) 0), (.l 8, .blk 69 [int l.length, .tr (.ls (e.map edT))]), (.s 10, u64 (BitVec.ofNat 64 (2 ^ l.length))), (.s 11, u64 (BitVec.ofNat 64 m))]) (fun m => 2 ^ l.length - m) (fun m => m ≤ 2 ^ l.length)
    0 (Nat.zero_le _) (Sub.app (l := [_, _, _, _, _, _, _, _]) (H := []) ⟨rfl, rfl, rfl, rfl, rfl, rfl, rfl, rfl, trivial⟩ (fun κ v h => nomatch h)) ?_
  rintro m hm
  have hp20 : (2 : Nat) ^ 20 = 1048576 := rfl
  rw [hp20] at hpow
  have t1 := ofNat_toNat (m := m) (by omega)
  have t2 := ofNat_toNat (m := 2 ^ l.length) (by omega)
  have t0 : m < 18446744073709551615 := by have : (2 : Nat) ^ 20 = 1048576 := rfl; omega
  generalize hgm : 2 ^ l.length = M at *
  repeat' (first|refine zS ?_|refine zR ?_|refine zE tab_ok rfl rfl ?_|refine zN ?_|(refine zG rfl rfl (fun _ => ?_) fun _ => ?_)<;>refine zE tab_ok rfl rfl ?_|(refine zC rfl (fun _ => ?_) fun _ => ?_)<;>try (rename_i h; cases h; done)|refine zB ?_|refine zK ?_|refine zZ ⟨_, rfl, ?_⟩)
  · rename_i h2
    have h2 : decide (((BitVec.ofNat 64 m).toNat : Int) < ((BitVec.ofNat 64 M).toNat : Int)) = true := h2
    rw [t1, t2, decide_eq_true_eq] at h2
    have hC := hCl (BitVec.ofNat 64 m)
    have hFm := hFl (BitVec.ofNat 64 m)
    have hGm := hGd (BitVec.ofNat 64 m)
    have hwr : IntKind.u64.wrap (((BitVec.ofNat 64 m).toNat : Int) + 1) = ((BitVec.ofNat 64 (m + 1)).toNat : Int) := by
      rw [t1, ofNat_toNat (by omega)]
      have := wrap_bv (BitVec.ofNat 64 (m + 1))
      rw [ofNat_toNat (by omega)] at this
      rw [← this]; rfl
    have hnx : (AV.tr (.sc (.int .u64 (IntKind.u64.wrap (((BitVec.ofNat 64 m).toNat : Int) + 1))))) = u64 (BitVec.ofNat 64 (m + 1)) := by rw [hwr]
    generalize BitVec.ofNat 64 m = g at *
    cases hcb : closedB e g
    · rw [hcb] at hC
      refine Tr.drawn ( zD tab_ok rfl rfl <| zD tab_ok rfl rfl <| DSq.call rfl (fun _ => rfl) (hC) <| zD tab_ok rfl rfl <| zD tab_ok rfl rfl <| zD tab_ok rfl rfl <| zD tab_ok rfl rfl <| zD tab_ok rfl rfl <| zD tab_ok rfl rfl <| zD tab_ok rfl rfl <| zD tab_ok rfl rfl <| zD tab_ok rfl rfl <| DSq.nil _) mix_ok rfl ?_
      repeat' (first|refine zS ?_|refine zR ?_|refine zE tab_ok rfl rfl ?_|refine zN ?_|(refine zG rfl rfl (fun _ => ?_) fun _ => ?_)<;>refine zE tab_ok rfl rfl ?_|(refine zC rfl (fun _ => ?_) fun _ => ?_)<;>try (rename_i h; cases h; done)|refine zB ?_|refine zK ?_|refine zZ ⟨_, rfl, ?_⟩)
      exact ⟨m + 1, by omega, by omega, Sub.app (l := [_, _, _, _, _, _, _, _]) (H := []) ⟨rfl, rfl, rfl, rfl, rfl, rfl, rfl, congrArg some hnx, trivial⟩ (fun κ v h => nomatch h)⟩
    · rw [hcb] at hC
      have hGm := hGm hcb
      generalize (fleetL c f t (chs g l l.length)).map pT' = FL at *
      refine Tr.drawn ( zD tab_ok rfl rfl <| zD tab_ok rfl rfl <| DSq.call rfl (fun _ => rfl) (hC) <| zD tab_ok rfl rfl <| zD tab_ok rfl rfl <| zD tab_ok rfl rfl <| zD tab_ok rfl rfl <| zD tab_ok rfl rfl <| DSq.call rfl (fun _ => rfl) (hFm) <| DSq.call rfl (fun _ => rfl) (hGm) <| zD tab_ok rfl rfl <| zD tab_ok rfl rfl <| DSq.nil _) mix_ok rfl ?_
      repeat' (first|refine zS ?_|refine zR ?_|refine zE tab_ok rfl rfl ?_|refine zN ?_|(refine zG rfl rfl (fun _ => ?_) fun _ => ?_)<;>refine zE tab_ok rfl rfl ?_|(refine zC rfl (fun _ => ?_) fun _ => ?_)<;>try (rename_i h; cases h; done)|refine zB ?_|refine zK ?_|refine zZ ⟨_, rfl, ?_⟩)
      exact ⟨m + 1, by omega, by omega, Sub.app (l := [_, _, _, _, _, _, _, _]) (H := []) ⟨rfl, rfl, rfl, rfl, rfl, rfl, rfl, congrArg some hnx, trivial⟩ (fun κ v h => nomatch h)⟩
  · refine Tr.exit ?_
    repeat' (first|refine zS ?_|refine zR ?_|refine zE tab_ok rfl rfl ?_|refine zN ?_|(refine zG rfl rfl (fun _ => ?_) fun _ => ?_)<;>refine zE tab_ok rfl rfl ?_|(refine zC rfl (fun _ => ?_) fun _ => ?_)<;>try (rename_i h; cases h; done)|refine zB ?_|refine zK ?_|refine zZ ⟨_, rfl, ?_⟩)
    rfl
end Go.Lg.Tryz

set_option linter.unusedVariables false
set_option linter.unusedSimpArgs false
namespace Go.Lg
open Go Go.RowKit
section
variable {P : Program} {G : Env} {n : Nat} {tab : Tab} {m : Store}
end
end Go.Lg

set_option linter.unusedVariables false
set_option linter.unusedSimpArgs false
namespace Go.Lg.Sem
open Go Go.Lg
end Go.Lg.Sem

set_option linter.unusedVariables false
set_option linter.unusedSimpArgs false
namespace Go.Lg.Tryz
open Go Go.Proofs Go.RowKit Go.Lib Go.Lg.Sem
end Go.Lg.Tryz

set_option linter.unusedVariables false
set_option linter.unusedSimpArgs false
namespace Go.Lg.Tryz
open Go Go.Proofs Go.RowKit Go.Lib Go.Lg.Sem
end Go.Lg.Tryz

set_option linter.unusedVariables false
set_option linter.unusedSimpArgs false
namespace Go.Lg.Tryz
open Go Go.Proofs Go.RowKit Go.Lib Go.Lg.Sem
end Go.Lg.Tryz

set_option linter.unusedVariables false
set_option linter.unusedSimpArgs false
namespace Go.Lg.Tryz
open Go Go.Proofs Go.RowKit Go.Lib Go.Lg.Sem
end Go.Lg.Tryz

set_option linter.unusedVariables false
set_option linter.unusedSimpArgs false
namespace Go.Lg.Tryz
open Go Go.Proofs Go.RowKit Go.Lib Go.Lg.Sem
end Go.Lg.Tryz

set_option linter.unusedVariables false
set_option linter.unusedSimpArgs false
namespace Go.Lg.Tryz
open Go Go.Proofs Go.RowKit Go.Lib Go.Lg.Sem
end Go.Lg.Tryz

set_option linter.unusedVariables false
set_option linter.unusedSimpArgs false
namespace Go.Lg.Tryz
open Go Go.Proofs Go.RowKit Go.Lib Go.Lg.Sem
end Go.Lg.Tryz

set_option linter.unusedVariables false
set_option linter.unusedSimpArgs false
namespace Go.Lg
open Go Go.RowKit
section
variable {P : Program} {G : Env} {n : Nat} {tab : Tab} {m : Store}
def swp (κ κ' l : Loc) : Loc := match κ.eqb l with
  | true => κ'
  | false => l
mutual
def AV.rn (κ κ' : Loc) : AV → AV
  | .ptr k o => .ptr (swp κ κ' k) o
  | .sl k a b => .sl (swp κ κ' k) a b
  | .agg xs => .agg (rnL κ κ' xs)
  | .tup xs => .tup (rnL κ κ' xs)
  | .fn f xs => .fn f (rnL κ κ' xs)
  | .blk t xs => .blk t (rnL κ κ' xs)
  | v => v
def rnL (κ κ' : Loc) : List AV → List AV
  | [] => []
  | x :: xs => x.rn κ κ' :: rnL κ κ' xs
end
theorem rnL_map (κ κ' : Loc) : ∀ xs : List AV, rnL κ κ' xs = xs.map (·.rn κ κ')
  | [] => rfl
  | x :: xs => by simp only [rnL, List.map_cons]; rw [rnL_map κ κ' xs]
theorem swp_self (κ κ' : Loc) : swp κ κ' κ = κ' := by unfold swp; rw [Loc.eqb_self]
theorem swp_ne {κ κ' l : Loc} (h : κ ≠ l) : swp κ κ' l = l := by unfold swp; rw [Loc.eqb_ne h]
theorem swp_blk {κ κ' l : Loc} (h : κ'.isBlk = true) (hl : l.isBlk = true) : (swp κ κ' l).isBlk = true := by
  unfold swp; split <;> assumption
theorem rn_vrel {w : World} {M : Nat → Nat → Prop} {bk bk' : Loc → Option Nat} {κ κ' : Loc} (hk' : κ'.isBlk = true) (hbk : ∀ l b, l ≠ κ' → bk l = some b → bk' (swp κ κ' l) = some b) {y : AV} {v : Value} (h : VRel w M bk y v) : (∀ l, Refs l y → l ≠ κ') → VRel w M bk' (y.rn κ κ') v := by
  induction h with
  | unk v => intro _; exact .unk v
  | und => intro _; exact .und
  | tr t v h => intro _; exact .tr t v h
  | ptr k off b hk h => intro hy; exact .ptr _ off b (swp_blk hk' hk) (hbk k b (hy k (.ptr off)) h)
  | sl k len cap b hk h hc => intro hy; exact .sl _ len cap b (swp_blk hk' hk) (hbk k b (hy k (.sl len cap)) h) hc
  | ep cs off b o f h1 h2 h3 h4 => intro _; exact .ep cs off b o f h1 h2 h3 h4
  | agg xs cs h1 h2 h3 ih =>
    intro hy
    simp only [AV.rn]
    rw [rnL_map]
    refine .agg _ _ (by simpa using h1) h2 fun i x v hx hv => ?_
    rw [List.getElem?_map] at hx
    obtain ⟨x0, hx0, rfl⟩ := Option.map_eq_some_iff.1 hx
    exact ih i x0 v hx0 hv (fun l hl => hy l (.agg xs x0 (List.mem_of_getElem? hx0) hl))
  | tup xs cs h1 h2 ih =>
    intro hy
    simp only [AV.rn]
    rw [rnL_map]
    refine .tup _ _ (by simpa using h1) fun i x v hx hv => ?_
    rw [List.getElem?_map] at hx
    obtain ⟨x0, hx0, rfl⟩ := Option.map_eq_some_iff.1 hx
    exact ih i x0 v hx0 hv (fun l hl => hy l (.tup xs x0 (List.mem_of_getElem? hx0) hl))
  | fn f xs cs h1 h2 ih =>
    intro hy
    simp only [AV.rn]
    rw [rnL_map]
    refine .fn f _ _ (by simpa using h1) fun i x v hx hv => ?_
    rw [List.getElem?_map] at hx
    obtain ⟨x0, hx0, rfl⟩ := Option.map_eq_some_iff.1 hx
    exact ih i x0 v hx0 hv (fun l hl => hy l (.fn f xs x0 (List.mem_of_getElem? hx0) hl))
theorem rn_srel {w : World} {M : Nat → Nat → Prop} {Ow Ow' : Loc → Nat → Option Nat} {κ κ' : Loc} (hk' : κ'.isBlk = true) (hbk : ∀ l b, l ≠ κ' → Ow l 0 = some b → Ow' (swp κ κ' l) 0 = some b) {y : AV} {v : Value} {o : Option Nat} (h : SRel P w M Ow y v o) (hy : ∀ l, Refs l y → l ≠ κ') : SRel P w M Ow' (y.rn κ κ') v o := by
  cases y with
  | own ty xs => exact h
  | raw ty z xs => exact h
  | rtup ty z xs rest => exact h
  | _ => exact rn_vrel (bk := fun l => Ow l 0) (bk' := fun l => Ow' l 0) hk' hbk h hy
def rnS (κ κ' : Loc) (m : Store) : Store := m.map fun p => (swp κ κ' p.1, p.2.rn κ κ')
theorem lk_rnS {κ κ' : Loc} : ∀ {m : Store} {l : Loc} {v' : AV}, lk (rnS κ κ' m) l = some v' → ∃ l0 y, lk m l0 = some y ∧ swp κ κ' l0 = l ∧ v' = y.rn κ κ'
  | [], l, v', h => by cases h
  | (k, u) :: r, l, v', h => by
    have h : lk ((swp κ κ' k, u.rn κ κ') :: rnS κ κ' r) l = some v' := h
    rw [lk_cons] at h
    split at h
    · rename_i e
      obtain rfl := Option.some.inj h
      exact ⟨k, u, lk_self .., e, rfl⟩
    · rename_i e
      obtain ⟨l0, y, h1, h2, h3⟩ := lk_rnS h
      refine ⟨l0, y, ?_, h2, h3⟩
      rw [lk_ne _ _ (fun e' => e (by rw [e']; exact h2))]; exact h1
theorem RelX.ren {Γ : Ctx} {a : Act} {w : World} (h : RelX P Γ n m a w) {κ κ' : Loc} (hL : κ.isL = true) (hL' : κ'.isL = true) (hne : κ ≠ κ') (hno : lk m κ' = none) (hf : refsM κ' m = false) (hp : Γ.pin κ = none) (hp' : Γ.pin κ' = none) : RelX P Γ n (rnS κ κ' m) a w := by
  obtain ⟨M, Ow, hr⟩ := h
  have hk := Loc.isL_blk hL
  have hk' := Loc.isL_blk hL'
  let Ow' : Loc → Nat → Option Nat := fun l i => if l = κ' then Ow κ i else if l = κ then none else Ow l i
  have hs : ∀ l i, l ≠ κ' → Ow' (swp κ κ' l) i = Ow l i := by
    intro l i hl
    by_cases e : κ = l
    · subst e; rw [swp_self]; show (if κ' = κ' then Ow κ i else _) = _; rw [if_pos rfl]
    · rw [swp_ne e]; show (if l = κ' then Ow κ i else if l = κ then none else Ow l i) = _; rw [if_neg hl, if_neg (fun e' => e e'.symm)]
  have hbk : ∀ l b, l ≠ κ' → Ow l 0 = some b → Ow' (swp κ κ' l) 0 = some b := fun l b hl h => by rw [hs l 0 hl]; exact h
  have hrf : ∀ {l0 : Loc} {y : AV}, lk m l0 = some y → ∀ l, Refs l y → l ≠ κ' := fun h1 l hl e => by subst e; exact refsM_lk hf h1 hl
  have hl0 : ∀ {l0 : Loc} {y : AV}, lk m l0 = some y → l0 ≠ κ' := fun h1 e => by subst e; rw [hno] at h1; cases h1
  have back : ∀ l i b, Ow' l i = some b → ∃ l0, Ow l0 i = some b ∧ l0 ≠ κ' ∧ swp κ κ' l0 = l := by
    intro l i b hb
    have hb : (if l = κ' then Ow κ i else if l = κ then none else Ow l i) = some b := hb
    split at hb
    · rename_i e; exact ⟨κ, hb, hne, by rw [swp_self, e]⟩
    · rename_i e1
      split at hb
      · cases hb
      · rename_i e2; exact ⟨l, hb, e1, swp_ne (fun e => e2 e.symm)⟩
  refine ⟨M, Ow', {
    size := hr.size
    defers := hr.defers
    slot := ?_
    blk := ?_
    inj := ?_
    lt := ?_
    mine := ?_
    mlt := hr.mlt
    mold := hr.mold
    mnew := hr.mnew
    fr := hr.fr
    pin := ?_ }⟩
  · intro t v' hv'
    obtain ⟨l0, y, h1, h2, rfl⟩ := lk_rnS hv'
    have e : l0 = .s t := by
      by_cases e : κ = l0
      · subst e; rw [swp_self] at h2; rw [h2] at hL'; cases hL'
      · rw [swp_ne e] at h2; exact h2
    subst e
    have := rn_srel hk' hbk (hr.slot t y h1) (hrf h1)
    rw [← h2, hs _ 0 (hl0 h1)]; exact this
  · intro l v' hl hv'
    obtain ⟨l0, y, h1, h2, rfl⟩ := lk_rnS hv'
    have hl0b : l0.isBlk = true := by
      by_cases e : κ = l0
      · subst e; exact hk
      · rw [swp_ne e] at h2; rw [h2]; exact hl
    obtain ⟨ty, cells, b, cs, rfl, ho, hh, hsz, hn, h3, h4⟩ := hr.blk l0 y hl0b h1
    refine ⟨ty, rnL κ κ' cells, b, cs, rfl, by rw [← h2, hs _ 0 (hl0 h1)]; exact ho, hh, by rw [rnL_map, List.length_map]; exact hsz, hn, h3, ?_⟩
    intro i x v hx hv
    rw [rnL_map, List.getElem?_map] at hx
    obtain ⟨x0, hx0, rfl⟩ := Option.map_eq_some_iff.1 hx
    rw [← h2, hs _ (i + 1) (hl0 h1)]
    exact rn_srel hk' hbk (h4 i x0 v hx0 hv) (fun l hl => hrf h1 l (.blk ty cells x0 (List.mem_of_getElem? hx0) hl))
  · intro l i l' i' b hb hb'
    obtain ⟨l0, h1, _, h3⟩ := back l i b hb
    obtain ⟨l1, h4, _, h6⟩ := back l' i' b hb'
    obtain ⟨e1, e2⟩ := hr.inj _ _ _ _ _ h1 h4
    subst e1
    exact ⟨h3.symm.trans h6, e2⟩
  · intro l i b hb
    obtain ⟨l0, h1, _, _⟩ := back l i b hb
    exact hr.lt _ _ _ h1
  · intro l i b hb
    obtain ⟨l0, h1, _, h3⟩ := back l i b hb
    rcases hr.mine _ _ _ h1 with h | h | ⟨j, e, h⟩
    · exact .inl h
    · exact .inr (.inl h)
    · subst e
      refine .inr (.inr ⟨j, ?_, h⟩)
      rw [swp_ne (fun e => by rw [e] at hL; cases hL)] at h3; exact h3.symm
  · intro l b hl hpl
    have h1 : l ≠ κ' := fun e => by rw [e, hp'] at hpl; cases hpl
    have h2 : l ≠ κ := fun e => by rw [e, hp] at hpl; cases hpl
    show (if l = κ' then Ow κ 0 else if l = κ then none else Ow l 0) = some b
    rw [if_neg h1, if_neg h2]; exact hr.pin l b hl hpl
theorem pin_none {Γ : Ctx} (hΓ : G.ok Γ) {κ : Loc} (h : pinB [κ] G.pins = true) : Γ.pin κ = none := by
  cases hx : Γ.pin κ with
  | none => rfl
  | some b => exact absurd (hΓ.2 κ (by rw [hx]; simp)) (pinB_eq h κ (by simp))
theorem Tr.ren {c : Code} {Q : Exit → Store → Prop} (κ κ' : Loc) (hL : κ.isL = true) (hL' : κ'.isL = true) (hne : κ ≠ κ') (hno : lk m κ' = none) (hf : refsM κ' m = false) (hp : pinB [κ] G.pins = true) (hp' : pinB [κ'] G.pins = true) (k : Tr P G n c (rnS κ κ' m) Q) : Tr P G n c m Q :=
  fun Γ hΓ a w hr => k Γ hΓ a w (hr.ren hL hL' hne hno hf (pin_none hΓ hp) (pin_none hΓ hp'))
structure CPreX (P : Program) (G : World → Prop) (M : Nat → Nat → Prop) (Ow : Loc → Nat → Option Nat) (args : List AV) (H : Store) (cargs : Array Value) (w : World) : Prop where
  size : cargs.size = args.length
  arg : ∀ (i : Nat) (x : AV) (v : Value), args[i]? = some x → cargs[i]? = some v → VRel w M (fun κ => Ow κ 0) x v
  blk : ∀ κ v, lk H κ = some v → BRel P w M Ow κ v
  only : ∀ l i b, Ow l i = some b → l.isL = true ∧ ∃ cs ty, w.heap[b]? = some (.cells cs ty (0, 0))
  inj : ∀ l i l' i' b, Ow l i = some b → Ow l' i' = some b → l = l' ∧ i = i'
  mlt : ∀ b o, M b o → b < w.heap.size
  stab : ∀ w', Fr w (fun b => ∃ l i, Ow l i = some b) M w' → G w'
  base : ∃ w1, G w1 ∧ (∀ b, (∃ l i, Ow l i = some b) → w1.heap.size ≤ b) ∧ w1.heap.size ≤ w.heap.size
structure CPostX (P : Program) (M : Nat → Nat → Prop) (Ow : Loc → Nat → Option Nat) (H : Store) (R : AV → Store → Prop) (w : World) (cv : Value) (w' : World) : Prop where
  fr : Fr w (fun b => ∃ l i, Ow l i = some b) M w'
  res : ∃ (M' : Nat → Nat → Prop) (Ow' : Loc → Nat → Option Nat) (r : AV) (N : Store) (o : Option Nat), R r N ∧ (∀ b k, M b k → M' b k) ∧ (∀ b k, M' b k → M b k ∨ (∃ l i, Ow l i = some b) ∨ w.heap.size ≤ b) ∧ (∀ b k, M' b k → b < w'.heap.size) ∧
    (∀ l i l' i' b, Ow' l i = some b → Ow' l' i' = some b → l = l' ∧ i = i') ∧ (∀ l i b, Ow' l i = some b → b < w'.heap.size ∧ ((∃ l i, Ow l i = some b) ∨ w.heap.size ≤ b)) ∧
    (∀ b, o = some b → b < w'.heap.size ∧ ((∃ l i, Ow l i = some b) ∨ w.heap.size ≤ b) ∧ ∀ l i, lk N l ≠ none → Ow' l i ≠ some b) ∧
    (∀ κ, lk H κ ≠ none → lk N κ ≠ none ∧ Ow' κ 0 = Ow κ 0) ∧ (∀ κ v, lk N κ = some v → κ.isL = true ∧ BRel P w' M' Ow' κ v) ∧ SRel P w' M' Ow' r cv o
def FnX (P : Program) (G : World → Prop) (f : FuncId) (args : List AV) (H : Store) (R : AV → Store → Prop) : Prop :=
  Callable P f ∧ ∀ M Ow w cargs, G w → CPreX P G M Ow args H cargs w → Calls P f cargs w fun e w' => ∃ cv, e = .returned cv ∧ CPostX P M Ow H R w cv w'
def resX (tab : Tab) (m : Store) (rs : List ResultVar) : Option AV := match resO tab m rs with
  | some r => match r.isOwn with
    | true => none
    | false => some r
  | none => match rs with
    | [.cell a t] => match lk m (.s a), tlk tab t with
      | some (.ptr κ 0), some ⟨size, _, kind, _⟩ => match lk m κ with
        | some (.blk _ cells) => match kind.agg, Nat.beq cells.length size with
          | true, true => some (.agg (cells.map AV.deg))
          | _, _ => none
        | _ => none
      | _, _ => none
    | _ => none
theorem resX_own {m : Store} {rs : List ResultVar} {v : AV} (h : resX tab m rs = some v) : v.isOwn = false := by
  unfold resX at h
  split at h
  · split at h
    · cases h
    · rename_i hn; obtain rfl := Option.some.inj h; exact hn
  · split at h
    · split at h
      · split at h
        · split at h
          · obtain rfl := Option.some.inj h; rfl
          · cases h
        · cases h
      · cases h
    · cases h
theorem resX_ok (hT : TabOk P tab) {fn : Func} {v : AV} (h : resX tab m fn.results.toList = some v) {Γ : Ctx} {M : Nat → Nat → Prop} {Ow : Loc → Nat → Option Nat} {a : Act} {w : World} (hr : Rel P Γ M Ow n m a w) :
    ∃ cv, (results fn a.tmps).run P w = .ok cv w ∧ SRel P w M Ow v cv none := by
  have hown := resX_own h
  unfold resX at h
  split at h
  · rename_i r hres
    split at h
    · cases h
    · obtain rfl := Option.some.inj h
      obtain ⟨cv, e1, _, o, e2, _⟩ := resO_ok hT hres hr
      exact ⟨cv, e1, srel_of (vrel_of e2 hown) none⟩
  · split at h
    · rename_i ad t hres
      split at h
      · rename_i κ size by' kind zs ha ht
        split at h
        · rename_i ty cells hκ
          split at h
          · rename_i hagg hlen
            obtain rfl := Option.some.inj h
            have hlen := Nat.eq_of_beq_eq_true hlen
            have hq : VRel w M (fun κ => Ow κ 0) (.ptr κ 0) (a.tmps.getD ad undef) := hr.slot ad _ ha
            obtain ⟨b, hk, hb, hv⟩ : ∃ b, κ.isBlk = true ∧ Ow κ 0 = some b ∧ a.tmps.getD ad undef = .pointer (some ⟨b, 0, none⟩) := by
              generalize a.tmps.getD ad undef = q at hq
              cases hq with | ptr _ _ b hk hb => exact ⟨b, hk, hb, rfl⟩
            obtain ⟨ty0, cells0, b0, cs, e0, ho, hh, hs', hn, h1, hcs⟩ := hr.blk κ _ hk hκ
            obtain ⟨rfl, rfl⟩ : ty = ty0 ∧ cells = cells0 := by injection e0; exact ⟨‹_›, ‹_›⟩
            obtain rfl : b = b0 := by rw [hb] at ho; exact Option.some.inj ho
            have hld := run_loadVar_agg (P := P) (w := w) (b := b) (o := 0) (cs := cs.toList) hT ht hagg (by simp [hs', hlen]) (fun j u hj => by
              rw [Nat.zero_add]
              simp [World.cell?, hh]
              simpa using hj)
            refine ⟨.agg cs.toList.toArray, ?_, ?_⟩
            · have hm : fn.results.mapM (fun x => resV x a.tmps) = (do let l ← fn.results.toList.mapM (fun x => resV x a.tmps); pure l.toArray : Sem (Array Value)) := by
                rw [Array.mapM_eq_mapM_toList]; rfl
              rw [results_eq, hm, hres]
              have h0 : (resV (.cell ad t) a.tmps).run P w = .ok (.agg cs.toList.toArray) w := by
                have e : resV (.cell ad t) a.tmps = (Bind.bind (asAddr (a.tmps.getD ad undef)) fun p => loadVar t p) := rfl
                rw [e, hv]
                exact hld
              simp [List.mapM_cons, h0]
            · refine VRel.agg _ _ (by simp [hs']) (fun i v hv => h1 i v (by simpa using hv)) fun i x v hx hv => ?_
              rw [List.getElem?_map] at hx
              obtain ⟨y, hy, rfl⟩ := Option.map_eq_some_iff.1 hx
              exact deg_vrel (hcs i y v hy (by simpa using hv))
          · cases h
        · cases h
      · cases h
    · cases h
def retX (tab : Tab) (res : List ResultVar) (H : Store) (R : AV → Store → Prop) : Exit → Store → Prop
  | .ret, m => ∃ r N, resX tab m res = some r ∧ R r N ∧ (∀ κ v, lk N κ = some v → κ.isL = true ∧ lk m κ = some v) ∧ ∀ κ, lk H κ ≠ none → lk N κ ≠ none
  | .normal, m => ∃ r N, resX tab m res = some r ∧ R r N ∧ (∀ κ v, lk N κ = some v → κ.isL = true ∧ lk m κ = some v) ∧ ∀ κ, lk H κ ≠ none → lk N κ ≠ none
  | _, _ => False
theorem FnX.of {G : World → Prop} {f : FuncId} {fn : Func} {c : Code} {args : List AV} {H : Store} {R : AV → Store → Prop} (pins : List Loc) (hT : TabOk P tab) (hf : P.funcs[f]? = some fn) (hb : fn.body = some c) (hname : (fn.name == "runtime.NumGoroutine") = false)
    (hargs : args.length ≤ fn.ntmps) (hn : fn.ntmps = n) (hH : ∀ κ v, lk H κ = some v → κ.isBlk = true ∧ κ ∈ pins) (h : Tr P ⟨G, pins⟩ n c (entryS args 0 H) (retX tab fn.results.toList H R)) : FnX P G f args H R := by
  subst hn
  refine ⟨⟨fn, hf, hname, by rw [hb]; rfl⟩, fun M Ow w cargs hgw hp => ?_⟩
  refine (callsIn_wide (n := 0)).1 (callsIn_of_wp_marks hf hb trivial ?_ rfl)
  classical
  let Γ : Ctx := ⟨w, fun b => ∃ l i, Ow l i = some b, M, fun _ => False, G, hp.stab, [], none, (fun l h => by cases h), fun κ => if lk H κ = none then none else Ow κ 0, hp.base⟩
  have hsz : cargs.size ≤ fn.ntmps := by rw [hp.size]; exact hargs
  have hlt : ∀ l i b, Ow l i = some b → b < w.heap.size := fun l i b hb => by
    obtain ⟨_, cs, ty, h⟩ := hp.only l i b hb
    exact (Array.getElem?_eq_some_iff.1 h).1
  have hr : RelX P Γ fn.ntmps (entryS args 0 H) { tmps := cargs ++ Array.replicate (fn.ntmps - cargs.size) undef, defers := [] } w := by
    refine ⟨M, Ow, {
      size := by simp; omega
      defers := ⟨[], rfl, List.nodup_nil, fun D h => by cases h⟩
      slot := ?_
      blk := ?_
      inj := hp.inj
      lt := hlt
      mine := fun l i b hb => .inl ⟨l, i, hb⟩
      mlt := hp.mlt
      mold := fun b o h => h
      mnew := fun b o h => .inl h
      pin := fun κ b hk h => by
        have h : (if lk H κ = none then none else Ow κ 0) = some b := h
        split at h
        · cases h
        · exact h
      fr := ⟨rfl, rfl, rfl, Nat.le_refl _, fun _ _ _ => rfl, fun b cs ty z h => ⟨cs, h, rfl⟩, fun _ _ _ => rfl⟩ }⟩
    · intro t v hv
      obtain ⟨_, h2⟩ := lk_entry (fun κ v h => (hH κ v h).1) hv
      simp only [Nat.sub_zero] at h2
      have hlt : t < cargs.size := by
        rw [hp.size]
        rcases Nat.lt_or_ge t args.length with h | h
        · exact h
        · rw [List.getElem?_eq_none h] at h2; cases h2
      have : (cargs ++ Array.replicate (fn.ntmps - cargs.size) undef).getD t undef = cargs[t] := by
        rw [Array.getD_eq_getD_getElem?, Array.getElem?_append_left hlt]; simp [hlt]
      show SRel P w M Ow v ((cargs ++ Array.replicate (fn.ntmps - cargs.size) undef).getD t undef) _
      rw [this]
      exact srel_of (hp.arg t v _ h2 (by simp [hlt])) _
    · intro κ v hk hv
      rw [lk_entry_blk hk] at hv
      exact hp.blk κ v hv
  refine Go.wpIn_mono (F := FW none) (h Γ ⟨rfl, fun κ h => by
    have h : (if lk H κ = none then none else Ow κ 0) ≠ none := h
    split at h
    · exact absurd rfl h
    · rename_i h2
      obtain ⟨v, hv⟩ := Option.ne_none_iff_exists'.1 h2
      exact (hH κ v hv).2⟩ _ w hr) fun e a' w' hq => ?_
  obtain ⟨m', hq, M', Ow', hr'⟩ := hq
  have fin : (∃ r N, resX tab m' fn.results.toList = some r ∧ R r N ∧ (∀ κ v, lk N κ = some v → κ.isL = true ∧ lk m' κ = some v) ∧ ∀ κ, lk H κ ≠ none → lk N κ ≠ none) → LeavesInM (FW none) 0 P fn a'.tmps (fun e w' => ∃ cv, e = .returned cv ∧ CPostX P M Ow H R w cv w') a'.defers .returning w' := by
    rintro ⟨r, N, h1, h2, hN1, hN2⟩
    obtain ⟨Ds, hd1, hd2, hd3⟩ := hr'.defers
    have key : ∀ (Ds : List Nat) (a' : Act) (w' : World), Rel P Γ M' Ow' fn.ntmps m' a' w' → a'.defers = Ds.map markD → Ds.Nodup → (∀ D, D ∈ Ds → w.heap.size ≤ D ∧ w'.heap[D]? = some (.deferred (some []))) →
        LeavesInM (FW none) 0 P fn a'.tmps (fun e w' => ∃ cv, e = .returned cv ∧ CPostX P M Ow H R w cv w') (Ds.map markD) .returning w' := by
      intro Ds
      induction Ds with
      | nil =>
        intro a' w' hr' hd _ _
        obtain ⟨cv, e1, e2⟩ := resX_ok hT h1 hr'
        have mine : ∀ l i b, Ow' l i = some b → (∃ l i, Ow l i = some b) ∨ w.heap.size ≤ b := fun l i b hb => by
          rcases hr'.mine l i b hb with h | h | ⟨j, _, h⟩
          · exact .inl h
          · exact .inr h
          · exact h.elim
        refine ⟨cv, e1, cv, rfl, ⟨hr'.fr, M', Ow', r, N, none, h2, hr'.mold, ?_, hr'.mlt, hr'.inj, fun l i b hb => ⟨hr'.lt l i b hb, mine l i b hb⟩, (fun b e => nomatch e), ?_, ?_, e2⟩⟩
        · intro b k hb
          rcases hr'.mnew b k hb with h | h | h
          · exact .inl h
          · exact .inr (.inl h)
          · exact .inr (.inr h)
        · intro κ hκ
          refine ⟨hN2 κ hκ, ?_⟩
          obtain ⟨v, hv⟩ := Option.ne_none_iff_exists'.1 hκ
          obtain ⟨ty, cells, b, cs, rfl, ho, _⟩ := hp.blk κ v hv
          rw [ho]
          exact hr'.pin κ b (hH κ _ hv).1 (show (if lk H κ = none then none else Ow κ 0) = some b by rw [if_neg hκ]; exact ho)
        · intro κ v hv
          obtain ⟨q1, q2⟩ := hN1 κ v hv
          exact ⟨q1, hr'.blk κ v (Loc.isL_blk q1) q2⟩
      | cons D Ds ih =>
        intro a' w' hr' hd hn hD
        refine ⟨by simp, .inl ⟨D, _, rfl, run_takeDeferred (hD D (List.mem_cons_self ..)).2, ?_⟩⟩
        have hr2 := hr'.drop hn hD
        rw [List.append_nil] at hr2
        exact ih { a' with defers := Ds.map markD } _ hr2 rfl (List.nodup_cons.1 hn).2 (fun d hd => ⟨(hD d (List.mem_cons_of_mem _ hd)).1, (World.putObj_heap_other (fun (e : d = D) => (List.nodup_cons.1 hn).1 (by rw [← e]; exact hd))).trans (hD d (List.mem_cons_of_mem _ hd)).2⟩)
    rw [List.append_nil] at hd1
    rw [hd1]
    exact key Ds a' w' hr' hd1 hd2 hd3
  cases e with
  | ret => exact fin hq
  | normal => exact fin hq
  | _ => exact hq.elim
end
end Go.Lg

set_option linter.unusedVariables false
set_option linter.unusedSimpArgs false
namespace Go.Lg
open Go Go.RowKit
section
variable {P : Program} {G : Env} {n : Nat} {tab : Tab} {m : Store}
end
end Go.Lg

set_option linter.unusedVariables false
set_option linter.unusedSimpArgs false
namespace Go.Lg.Tryz
open Go Go.Proofs Go.RowKit Go.Lib Go.Lg.Sem
end Go.Lg.Tryz

set_option linter.unusedVariables false
set_option linter.unusedSimpArgs false
namespace Go.Lg.Tryz
open Go Go.Proofs Go.RowKit Go.Lib Go.Lg.Sem
end Go.Lg.Tryz

set_option linter.unusedVariables false
set_option linter.unusedSimpArgs false
namespace Go.Lg.Tryz
open Go Go.Proofs Go.RowKit Go.Lib Go.Lg.Sem
end Go.Lg.Tryz

set_option linter.unusedVariables false
set_option linter.unusedSimpArgs false
namespace Go.Lg
open Go Go.RowKit
section
variable {P : Program} {G : Env} {n : Nat} {tab : Tab} {m : Store}
def evAppB (tab : Tab) (n : Nat) (ops : List Oper) (o : Oper) (m : Store) : Option (TypeId × Nat × Nat × Nat × List T × List T × Nat) := match o.op, o.dst, gOk m ops o.guard with
  | .call ⟨.builtin .append, ⟨[x, y]⟩, ⟨[t, t']⟩⟩, some d, true => match Nat.blt d n, Nat.beq t t', tlk tab t with
    | true, true, some ⟨_, _, .slice e, _⟩ => match tlk tab e, opV m y with
      | some ⟨es, by', _, zs⟩, some yv => match Nat.beq zs.length es, Nat.ble 1 es, Nat.ble 1 by', lsOf yv with
        | true, true, true, some ys => match x with
          | .tmp s => match lk m (.s s) with
            | some (.own e' xs) => match Nat.beq e' e with
              | true => some (e, es, by', s, xs, ys, d)
              | false => none
            | _ => none
          | _ => none
        | _, _, _, _ => none
      | _, _ => none
    | _, _, _ => none
  | _, _, _ => none
theorem Sq.appendB {ops l : List Oper} {o : Oper} {e es by0 s d : Nat} {xs ys : List T} {K : Store → Prop} (hT : TabOk P tab) (h : evAppB tab n ops o m = some (e, es, by0, s, xs, ys, d)) (hys : ∀ y, y ∈ ys → y.cells.length = es) (hlen : (xs.length + ys.length) * by0 ≤ 140737488355328) (hln : xs.length + ys.length ≤ 140737488355328)
    (k : Sq P G n ops l ((.s d, .own e (xs ++ ys)) :: (.s s, .unk) :: m) K) : Sq P G n ops (o :: l) m K := by
  obtain ⟨dst, op, type, pos, after, guard⟩ := o
  unfold evAppB at h
  simp only at h
  split at h
  · rename_i x y t t' d' hgd
    split at h
    · rename_i e0 _ hlt htt ht
      split at h
      · rename_i es' by' kd zs yv he hyv
        split at h
        · rename_i ys' hz1 hz2 hz4 hls
          obtain rfl : t = t' := Nat.eq_of_beq_eq_true htt
          have hd : d' < n := Nat.lt_of_succ_le (Nat.le_of_ble_eq_true hlt)
          have hzl : zs.length = es' := Nat.eq_of_beq_eq_true hz1
          have hpos : 0 < es' := Nat.le_of_ble_eq_true hz2
          split at h
          · rename_i s0
            split at h
            · rename_i e' xs0 hs0
              split at h
              · rename_i hee
                obtain rfl : e' = e0 := Nat.eq_of_beq_eq_true hee
                have heq := Option.some.inj h
                simp only [Prod.mk.injEq] at heq
                obtain ⟨rfl, rfl, rfl, rfl, rfl, rfl, rfl⟩ := heq
                refine Sq.do hgd (fun Γ M Ow a w hr => ?_) k
                obtain ⟨q, hq⟩ := opV_ok hyv hr
                have hq := deg_vrel hq
                rw [lsOf_eq hls] at hq
                have hrep : Rep w M (.ls ys') (a.eval y) := by cases hq with | tr _ _ h => exact h
                obtain ⟨v, w', h1, h2⟩ := append_run hT hr (dt := _) (de := ⟨es', by', kd, zs⟩) ht rfl he hpos hzl hd (ty := type) (bv := a.eval (.tmp s0)) (.inl ⟨hs0, rfl⟩) hrep hys hlen (by omega)
                refine ⟨v, w', ?_, h2⟩
                simp [execOp, resolve, invoke, builtin, h1]
              · cases h
            · cases h
          · cases h
        · cases h
      · cases h
    · cases h
  · cases h
end
end Go.Lg

set_option linter.unusedVariables false
set_option linter.unusedSimpArgs false
namespace Go.Lg.Tryz
open Go Go.Proofs Go.RowKit Go.Lib Go.Lg.Sem
abbrev stI (p : Int × Int) : T := .ag [.sc (.int .i64 p.1), .sc (.int .i64 p.2)]
abbrev plI (f t : List Int) (X Y : List T) : T := .ag [.ls (f.map intT), .ls (t.map intT), .ls X, .ls Y]
def plainI (f t : List Int) (l e : List (Int × Int)) : Bool := decide (f.length ≤ 30) && (decide (t.length ≤ 30) && (decide (l.length ≤ 40) && decide (e.length ≤ 200)))
set_option maxRecDepth 8192 in
theorem plainI_ok (f t : List Int) (l e : List (Int × Int)) (hl : l.length * 16 ≤ 140737488355328) :
    Fn Tryz.prog Gw 19 [.tr (plI f t (l.map stI) (e.map stI))] [] (· = .tup [.tr (plI f t (l.map stI) (e.map stI)), bool (plainI f t l e)]) := by
  refine Fn.of tab_ok Tryz.func19 rfl (by decide) (by simp [Tryz.f19]) rfl (fun κ v h => by cases h) Gw.below ?_
  refine zS ?_
  refine zR ?_
  refine zE tab_ok rfl rfl ?_
  refine zE tab_ok rfl rfl ?_
  refine zE tab_ok rfl rfl ?_
  refine zN ?_
  refine zS ?_
  refine zR ?_
  refine zE tab_ok rfl rfl ?_
  refine zE tab_ok rfl rfl ?_
  refine zE tab_ok rfl rfl ?_
  refine zE tab_ok rfl rfl ?_
  refine zE tab_ok rfl rfl ?_
  refine zE tab_ok rfl rfl ?_
  refine Sq.buildN tab_ok rfl rfl ?_
  refine zE tab_ok rfl rfl ?_
  refine zE tab_ok rfl rfl ?_
  refine zN ?_
  refine Tr.turn (fun Γ a w h => RelX.nilOwn tab_ok h (.l 4) 41 115 [_, _] [_] rfl rfl rfl) ?_
  repeat' (first|refine zS ?_|refine zR ?_|refine zE tab_ok rfl rfl ?_|refine zN ?_|(refine zG rfl rfl (fun _ => ?_) fun _ => ?_)<;>refine zE tab_ok rfl rfl ?_|(refine zC rfl (fun _ => ?_) fun _ => ?_)<;>try (rename_i h; cases h; done)|refine zB ?_|refine zK ?_|refine zZ ⟨_, rfl, ?_⟩)
  refine Tr.loopS (fun i : Nat => [(.s 1, .ptr (.l 1) 0), (.l 1, .blk 35 [.tr (.ls (f.map intT)), .tr (.ls (t.map intT)), .tr (.ls (l.map stI)), .tr (.ls (e.map stI))]), (.s 2, .ptr (.l 2) 0), (.l 2, .blk 41 [.own 3 [], .own 3 [], .own 115 [], .own 66 []]), (.s 4, .ptr (.l 4) 0), (.l 4, .blk 41 [.tr (.ls (f.map intT)), .tr (.ls (t.map intT)), .own 115 ((l.take i).map stI), .tr (.ls (e.map stI))]), (.s 15, .tr (.ls (l.map stI))), (.s 16, int (l.map stI).length), (.s 17, int i)]) (fun i => l.length - i) (fun i => i ≤ l.length)
    0 (by omega) (Sub.app (l := [_, _, _, _, _, _, _, _, _]) (H := []) ⟨rfl, rfl, rfl, rfl, rfl, rfl, rfl, rfl, rfl, trivial⟩ (fun κ v h => nomatch h)) ?_
  rintro i hi
  repeat' (first|refine zS ?_|refine zR ?_|refine zE tab_ok rfl rfl ?_|refine zN ?_|(refine zG rfl rfl (fun _ => ?_) fun _ => ?_)<;>refine zE tab_ok rfl rfl ?_|(refine zC rfl (fun _ => ?_) fun _ => ?_)<;>try (rename_i h; cases h; done)|refine zB ?_|refine zK ?_|refine zZ ⟨_, rfl, ?_⟩)
  · rename_i h2
    have h2 : decide ((i : Int) < ((l.map stI).length : Int)) = true := h2
    have hlt : i < l.length := by simp only [List.length_map, decide_eq_true_eq] at h2; omega
    obtain ⟨a, ha⟩ : ∃ a, l[i]? = some a := ⟨_, List.getElem?_eq_getElem hlt⟩
    have hae : (l.map stI)[((i : Nat) : Int).toNat]? = some (stI a) := by simp [ha]
    have htk : l.take (i + 1) = l.take i ++ [a] := by rw [List.take_add_one, ha]; rfl
    refine zI (x := stI a) tab_ok rfl (by omega) (hae) rfl ?_
    repeat' (first|refine zS ?_|refine zR ?_|refine zE tab_ok rfl rfl ?_|refine zN ?_|(refine zG rfl rfl (fun _ => ?_) fun _ => ?_)<;>refine zE tab_ok rfl rfl ?_|(refine zC rfl (fun _ => ?_) fun _ => ?_)<;>try (rename_i h; cases h; done)|refine zB ?_|refine zK ?_|refine zZ ⟨_, rfl, ?_⟩)
    refine Sq.appendB tab_ok rfl (fun y hy => by simp only [List.mem_singleton] at hy; subst hy; rfl) (by rw [List.length_map, List.length_take]; simp; omega) (by rw [List.length_map, List.length_take]; simp; omega) ?_
    repeat' (first|refine zS ?_|refine zR ?_|refine zE tab_ok rfl rfl ?_|refine zN ?_|(refine zG rfl rfl (fun _ => ?_) fun _ => ?_)<;>refine zE tab_ok rfl rfl ?_|(refine zC rfl (fun _ => ?_) fun _ => ?_)<;>try (rename_i h; cases h; done)|refine zB ?_|refine zK ?_|refine zZ ⟨_, rfl, ?_⟩)
    exact ⟨i + 1, by omega, by omega, Sub.app (l := [_, _, _, _, _, _, _, _, _]) (H := []) ⟨rfl, rfl, rfl, rfl, rfl, by rw [htk, List.map_append]; rfl, rfl, rfl, congrArg some (wrapz (by omega) (by omega) (by omega)), trivial⟩ (fun κ v h => nomatch h)⟩
  · rename_i h2
    have h2 : decide ((i : Int) < ((l.map stI).length : Int)) = false := h2
    have : i = l.length := by simp only [List.length_map, decide_eq_false_iff_not] at h2; omega
    subst this
    refine Tr.exit ?_
    rw [List.take_of_length_le (Nat.le_refl _)]
    have ei : ∀ {α : Type} (g : α → T) (xs : List α) (k : Nat), decide (((xs.map g).length : Int) ≤ (k : Int)) = decide (xs.length ≤ k) := fun g xs k => by
      rw [List.length_map]; simp
    unfold plainI
    cases d1 : decide (f.length ≤ 30)
    · have d1 := (ei intT f 30).trans d1
      refine zS ?_
      refine Tr.drawn ( zD tab_ok rfl rfl <| zD tab_ok rfl rfl <| zD tab_ok rfl rfl <| zD tab_ok rfl rfl <| DSq.evr tab_ok rfl (congrArg bool d1) <| zD tab_ok rfl rfl <| zD tab_ok rfl rfl <| zD tab_ok rfl rfl <| zD tab_ok rfl rfl <| zD tab_ok rfl rfl <| zD tab_ok rfl rfl <| zD tab_ok rfl rfl <| zD tab_ok rfl rfl <| zD tab_ok rfl rfl <| zD tab_ok rfl rfl <| zD tab_ok rfl rfl <| zD tab_ok rfl rfl <| zD tab_ok rfl rfl <| zD tab_ok rfl rfl <| zD tab_ok rfl rfl <| zD tab_ok rfl rfl <| zD tab_ok rfl rfl <| zD tab_ok rfl rfl <| zD tab_ok rfl rfl <| zD tab_ok rfl rfl <| DSq.nil _) mix_ok rfl ?_
      repeat' (first|refine zS ?_|refine zR ?_|refine zE tab_ok rfl rfl ?_|refine zN ?_|(refine zG rfl rfl (fun _ => ?_) fun _ => ?_)<;>refine zE tab_ok rfl rfl ?_|(refine zC rfl (fun _ => ?_) fun _ => ?_)<;>try (rename_i h; cases h; done)|refine zB ?_|refine zK ?_|refine zZ ⟨_, rfl, ?_⟩)
      rfl
    have d1 := (ei intT f 30).trans d1
    cases d2 : decide (t.length ≤ 30)
    · have d2 := (ei intT t 30).trans d2
      refine zS ?_
      refine Tr.drawn ( zD tab_ok rfl rfl <| zD tab_ok rfl rfl <| zD tab_ok rfl rfl <| zD tab_ok rfl rfl <| DSq.evr tab_ok rfl (congrArg bool d1) <| zD tab_ok rfl rfl <| zD tab_ok rfl rfl <| zD tab_ok rfl rfl <| zD tab_ok rfl rfl <| DSq.evr tab_ok rfl (congrArg bool d2) <| zD tab_ok rfl rfl <| zD tab_ok rfl rfl <| zD tab_ok rfl rfl <| zD tab_ok rfl rfl <| zD tab_ok rfl rfl <| zD tab_ok rfl rfl <| zD tab_ok rfl rfl <| zD tab_ok rfl rfl <| zD tab_ok rfl rfl <| zD tab_ok rfl rfl <| zD tab_ok rfl rfl <| zD tab_ok rfl rfl <| zD tab_ok rfl rfl <| zD tab_ok rfl rfl <| zD tab_ok rfl rfl <| DSq.nil _) mix_ok rfl ?_
      repeat' (first|refine zS ?_|refine zR ?_|refine zE tab_ok rfl rfl ?_|refine zN ?_|(refine zG rfl rfl (fun _ => ?_) fun _ => ?_)<;>refine zE tab_ok rfl rfl ?_|(refine zC rfl (fun _ => ?_) fun _ => ?_)<;>try (rename_i h; cases h; done)|refine zB ?_|refine zK ?_|refine zZ ⟨_, rfl, ?_⟩)
      rfl
    have d2 := (ei intT t 30).trans d2
    cases d3 : decide (l.length ≤ 40)
    · have d3 := (ei stI l 40).trans d3
      refine zS ?_
      refine Tr.drawn ( zD tab_ok rfl rfl <| zD tab_ok rfl rfl <| zD tab_ok rfl rfl <| zD tab_ok rfl rfl <| DSq.evr tab_ok rfl (congrArg bool d1) <| zD tab_ok rfl rfl <| zD tab_ok rfl rfl <| zD tab_ok rfl rfl <| zD tab_ok rfl rfl <| DSq.evr tab_ok rfl (congrArg bool d2) <| zD tab_ok rfl rfl <| zD tab_ok rfl rfl <| zD tab_ok rfl rfl <| zD tab_ok rfl rfl <| zD tab_ok rfl rfl <| DSq.evr tab_ok rfl (congrArg bool d3) <| zD tab_ok rfl rfl <| zD tab_ok rfl rfl <| zD tab_ok rfl rfl <| zD tab_ok rfl rfl <| zD tab_ok rfl rfl <| zD tab_ok rfl rfl <| zD tab_ok rfl rfl <| zD tab_ok rfl rfl <| zD tab_ok rfl rfl <| DSq.nil _) mix_ok rfl ?_
      repeat' (first|refine zS ?_|refine zR ?_|refine zE tab_ok rfl rfl ?_|refine zN ?_|(refine zG rfl rfl (fun _ => ?_) fun _ => ?_)<;>refine zE tab_ok rfl rfl ?_|(refine zC rfl (fun _ => ?_) fun _ => ?_)<;>try (rename_i h; cases h; done)|refine zB ?_|refine zK ?_|refine zZ ⟨_, rfl, ?_⟩)
      rfl
    have d3 := (ei stI l 40).trans d3
    have d4 := ei stI e 200
    generalize decide (e.length ≤ 200) = b4 at *
    refine zS ?_
    refine Tr.drawn ( zD tab_ok rfl rfl <| zD tab_ok rfl rfl <| zD tab_ok rfl rfl <| zD tab_ok rfl rfl <| DSq.evr tab_ok rfl (congrArg bool d1) <| zD tab_ok rfl rfl <| zD tab_ok rfl rfl <| zD tab_ok rfl rfl <| zD tab_ok rfl rfl <| DSq.evr tab_ok rfl (congrArg bool d2) <| zD tab_ok rfl rfl <| zD tab_ok rfl rfl <| zD tab_ok rfl rfl <| zD tab_ok rfl rfl <| zD tab_ok rfl rfl <| DSq.evr tab_ok rfl (congrArg bool d3) <| zD tab_ok rfl rfl <| zD tab_ok rfl rfl <| zD tab_ok rfl rfl <| zD tab_ok rfl rfl <| zD tab_ok rfl rfl <| DSq.evr tab_ok rfl (congrArg bool d4) <| zD tab_ok rfl rfl <| zD tab_ok rfl rfl <| zD tab_ok rfl rfl <| DSq.nil _) mix_ok rfl ?_
    repeat' (first|refine zS ?_|refine zR ?_|refine zE tab_ok rfl rfl ?_|refine zN ?_|(refine zG rfl rfl (fun _ => ?_) fun _ => ?_)<;>refine zE tab_ok rfl rfl ?_|(refine zC rfl (fun _ => ?_) fun _ => ?_)<;>try (rename_i h; cases h; done)|refine zB ?_|refine zK ?_|refine zZ ⟨_, rfl, ?_⟩)
    rfl
theorem graphI_ok (f t : List Int) (l e : List (Int × Int)) (he : e.length ≤ 1000) :
    Fn Tryz.prog Gw 39 [.tr (plI f t (l.map stI) (e.map stI))] [] (· = .tr (T.ag [.sc (.int .i64 (l.length : Nat)), .ls (e.map stI)])) := by
  have hC := cloneEdges stI (fun a => rfl) e (by omega)
  refine Fn.of tab_ok Tryz.func39 rfl (by decide) (by simp [Tryz.f39]) rfl (fun κ v h => by cases h) Gw.below ?_
  repeat' (first|refine zS ?_|refine zR ?_|refine zE tab_ok rfl rfl ?_|refine zN ?_|(refine zG rfl rfl (fun _ => ?_) fun _ => ?_)<;>refine zE tab_ok rfl rfl ?_|(refine zC rfl (fun _ => ?_) fun _ => ?_)<;>try (rename_i h; cases h; done)|refine zB ?_|refine zK ?_|refine zZ ⟨_, rfl, ?_⟩)
  refine Tr.drawn ( zD tab_ok rfl rfl <| zD tab_ok rfl rfl <| zD tab_ok rfl rfl <| zD tab_ok rfl rfl <| zD tab_ok rfl rfl <| DSq.call rfl (fun _ => rfl) (hC) <| zD tab_ok rfl rfl <| zD tab_ok rfl rfl <| DSq.nil _) mix_ok rfl ?_
  repeat' (first|refine zS ?_|refine zR ?_|refine zE tab_ok rfl rfl ?_|refine zN ?_|(refine zG rfl rfl (fun _ => ?_) fun _ => ?_)<;>refine zE tab_ok rfl rfl ?_|(refine zC rfl (fun _ => ?_) fun _ => ?_)<;>try (rename_i h; cases h; done)|refine zB ?_|refine zK ?_|refine zZ ⟨_, rfl, ?_⟩)
  show AV.tr (.ag [.sc (.int .i64 ((l.map stI).length : Int)), _]) = _
  rw [List.length_map]
theorem stI_eq (a b : Int × Int) : ((a.1 == b.1) && (a.2 == b.2)) = decide (a = b) := by
  obtain ⟨s, k⟩ := a
  obtain ⟨s', k'⟩ := b
  rw [Bool.eq_iff_iff]
  simp only [Bool.and_eq_true, beq_iff_eq, decide_eq_true_eq, Prod.mk.injEq]
theorem eqStepsI_ok (a b : List (Int × Int)) (hl : a.length ≤ 1000000) : Fn Tryz.prog Gw 55 [.tr (.ls (a.map stI)), .tr (.ls (b.map stI))] [] (· = bool (decide (a = b))) := by
  refine Fn.of tab_ok Tryz.func55 rfl (by decide) (by simp [Tryz.f55]) rfl (fun κ v h => by cases h) Gw.below ?_
  repeat' (first|refine zS ?_|refine zR ?_|refine zE tab_ok rfl rfl ?_|refine zN ?_|(refine zG rfl rfl (fun _ => ?_) fun _ => ?_)<;>refine zE tab_ok rfl rfl ?_|(refine zC rfl (fun _ => ?_) fun _ => ?_)<;>try (rename_i h; cases h; done)|refine zB ?_|refine zK ?_|refine zZ ⟨_, rfl, ?_⟩)
  · rename_i h1
    have h1 : (((a.map stI).length : Int) != ((b.map stI).length : Int)) = true := h1
    have hne : a ≠ b := fun e => by subst e; simp at h1
    show bool false = _
    rw [decide_eq_false hne]
  rename_i h1
  have h1 : (((a.map stI).length : Int) != ((b.map stI).length : Int)) = false := h1
  have hlen : a.length = b.length := by simp only [List.length_map, bne_eq_false_iff_eq] at h1; omega
  refine Tr.loopS (fun i : Nat => [(.s 0, .tr (.ls (a.map stI))), (.s 1, .tr (.ls (b.map stI))), (.s 12, int (a.map stI).length), (.s 13, int i)]) (fun i => a.length - i) (fun i => i ≤ a.length ∧ a.take i = b.take i)
    0 ⟨by omega, rfl⟩ (Sub.app (l := [_, _, _, _]) (H := []) ⟨rfl, rfl, rfl, rfl, trivial⟩ (fun κ v h => nomatch h)) ?_
  rintro i ⟨hi, htk⟩
  repeat' (first|refine zS ?_|refine zR ?_|refine zE tab_ok rfl rfl ?_|refine zN ?_|(refine zG rfl rfl (fun _ => ?_) fun _ => ?_)<;>refine zE tab_ok rfl rfl ?_|(refine zC rfl (fun _ => ?_) fun _ => ?_)<;>try (rename_i h; cases h; done)|refine zB ?_|refine zK ?_|refine zZ ⟨_, rfl, ?_⟩)
  · rename_i h2
    have hlt : i < a.length := by simp only [List.length_map, decide_eq_true_eq] at h2; omega
    obtain ⟨x, hx⟩ : ∃ x, a[i]? = some x := ⟨_, List.getElem?_eq_getElem hlt⟩
    obtain ⟨y, hy⟩ : ∃ x, b[i]? = some x := ⟨_, List.getElem?_eq_getElem (by omega)⟩
    have hxe : (a.map stI)[((i : Nat) : Int).toNat]? = some (stI x) := by simp [hx]
    have hye : (b.map stI)[((i : Nat) : Int).toNat]? = some (stI y) := by simp [hy]
    refine Tr.drawn ( zD tab_ok rfl rfl <| zD tab_ok rfl rfl <| zO rfl (fun q K hK => zI (x := stI x) tab_ok rfl (by omega) (hxe) rfl (zN hK)) <| zD tab_ok rfl rfl <| zD tab_ok rfl rfl <| zD tab_ok rfl rfl <| zO rfl (fun q K hK => zI (x := stI y) tab_ok rfl (by omega) (hye) rfl (zN hK)) <| zD tab_ok rfl rfl <| DSq.eqag rfl (fun _ => rfl) (by kernel_rfl) (fun w => eqA_stp 9998 w _ _ _ _) <| DSq.nil _) mix_ok rfl ?_
    rw [stI_eq]
    by_cases he : x = y
    · rw [decide_eq_true he]
      repeat' (first|refine zS ?_|refine zR ?_|refine zE tab_ok rfl rfl ?_|refine zN ?_|(refine zG rfl rfl (fun _ => ?_) fun _ => ?_)<;>refine zE tab_ok rfl rfl ?_|(refine zC rfl (fun _ => ?_) fun _ => ?_)<;>try (rename_i h; cases h; done)|refine zB ?_|refine zK ?_|refine zZ ⟨_, rfl, ?_⟩)
      refine ⟨i + 1, ⟨by omega, ?_⟩, by omega, Sub.app (l := [_, _, _, _]) (H := []) ⟨rfl, rfl, rfl, congrArg some (wrapz (by omega) (by omega) (by omega)), trivial⟩ (fun κ v h => nomatch h)⟩
      rw [List.take_add_one, List.take_add_one, htk, hx, hy, he]
    · rw [decide_eq_false he]
      repeat' (first|refine zS ?_|refine zR ?_|refine zE tab_ok rfl rfl ?_|refine zN ?_|(refine zG rfl rfl (fun _ => ?_) fun _ => ?_)<;>refine zE tab_ok rfl rfl ?_|(refine zC rfl (fun _ => ?_) fun _ => ?_)<;>try (rename_i h; cases h; done)|refine zB ?_|refine zK ?_|refine zZ ⟨_, rfl, ?_⟩)
      show bool false = _
      rw [decide_eq_false (fun e => he (by rw [e, hy] at hx; exact (Option.some.inj hx).symm))]
  · rename_i h2
    have : i = a.length := by simp only [List.length_map, decide_eq_false_iff_not] at h2; omega
    subst this
    refine Tr.exit ?_
    repeat' (first|refine zS ?_|refine zR ?_|refine zE tab_ok rfl rfl ?_|refine zN ?_|(refine zG rfl rfl (fun _ => ?_) fun _ => ?_)<;>refine zE tab_ok rfl rfl ?_|(refine zC rfl (fun _ => ?_) fun _ => ?_)<;>try (rename_i h; cases h; done)|refine zB ?_|refine zK ?_|refine zZ ⟨_, rfl, ?_⟩)
    show bool true = _
    rw [List.take_of_length_le (Nat.le_refl _), List.take_of_length_le (by omega)] at htk
    rw [decide_eq_true htk]
end Go.Lg.Tryz

set_option linter.unusedVariables false
set_option linter.unusedSimpArgs false
namespace Go.Lg.Tryz
open Go Go.Proofs Go.RowKit Go.Lib Go.Lg.Sem
def validI (n : Nat) (p : Int × Int) : Prop := (0 ≤ p.1 ∧ p.1 < n) ∧ 0 ≤ p.2 ∧ p.2 < n
abbrev stZ (a : Stp) : Int × Int := ((a.s : Int), (a.k : Int))
abbrev edZ (p : Nat × Nat) : Int × Int := ((p.1 : Int), (p.2 : Int))
theorem gCheckI_ok (n : Nat) (B : List (Int × Int)) (hn : n ≤ 64) (hl : B.length ≤ 4096) (hb : ∃ p, p ∈ B ∧ ¬ validI n p) : Fn Tryz.prog Gw 64 [.tr (.ag [.sc (.int .i64 (n : Nat)), .ls (B.map stI)])] [] (· = int 20) := by
  refine Fn.of tab_ok Tryz.func64 rfl (by decide) (by simp [Tryz.f64]) rfl (fun κ v h => by cases h) Gw.below ?_
  repeat' (first|refine zS ?_|refine zR ?_|refine zE tab_ok rfl rfl ?_|refine zN ?_|(refine zG rfl rfl (fun _ => ?_) fun _ => ?_)<;>refine zE tab_ok rfl rfl ?_|(refine zC rfl (fun _ => ?_) fun _ => ?_)<;>try (rename_i h; cases h; done)|refine zB ?_|refine zK ?_|refine zZ ⟨_, rfl, ?_⟩)
  · exfalso; simp only [decide_eq_true_eq, decide_eq_false_iff_not, List.length_map] at *; omega
  · exfalso; simp only [decide_eq_true_eq, decide_eq_false_iff_not, List.length_map] at *; omega
  refine Tr.loopS (fun k : Nat => [(.s 1, .ptr (.l 1) 0), (.l 1, .blk 93 [int n, .tr (.ls (B.map stI))]), (.s 20, .tr (.ls (B.map stI))), (.s 21, int (B.map stI).length), (.s 22, int k)]) (fun k => B.length - k)
    (fun k => k ≤ B.length ∧ ∀ j p, j < k → B[j]? = some p → validI n p) 0 ⟨by omega, fun j p h => by omega⟩ (Sub.app (l := [_, _, _, _, _]) (H := []) ⟨rfl, rfl, rfl, rfl, rfl, trivial⟩ (fun κ v h => nomatch h)) ?_
  rintro k ⟨hk, hinv⟩
  repeat' (first|refine zS ?_|refine zR ?_|refine zE tab_ok rfl rfl ?_|refine zN ?_|(refine zG rfl rfl (fun _ => ?_) fun _ => ?_)<;>refine zE tab_ok rfl rfl ?_|(refine zC rfl (fun _ => ?_) fun _ => ?_)<;>try (rename_i h; cases h; done)|refine zB ?_|refine zK ?_|refine zZ ⟨_, rfl, ?_⟩)
  · rename_i h2
    have h2 : decide ((k : Int) < ((B.map stI).length : Int)) = true := h2
    have hlt : k < B.length := by simp only [List.length_map, decide_eq_true_eq] at h2; omega
    obtain ⟨⟨x, y⟩, hpk⟩ : ∃ p, B[k]? = some p := ⟨_, List.getElem?_eq_getElem hlt⟩
    have hpe : (B.map stI)[((k : Nat) : Int).toNat]? = some (stI (x, y)) := by simp [hpk]
    refine zI (x := stI (x, y)) tab_ok rfl (by omega) (hpe) rfl ?_
    repeat' (first|refine zS ?_|refine zR ?_|refine zE tab_ok rfl rfl ?_|refine zN ?_|(refine zG rfl rfl (fun _ => ?_) fun _ => ?_)<;>refine zE tab_ok rfl rfl ?_|(refine zC rfl (fun _ => ?_) fun _ => ?_)<;>try (rename_i h; cases h; done)|refine zB ?_|refine zK ?_|refine zZ ⟨_, rfl, ?_⟩)
    refine Sq.indexA (j := 0) (len := 2) tab_ok rfl (by omega) (by omega) ?_
    refine zE tab_ok rfl rfl ?_
    refine Sq.indexA (j := 1) (len := 2) tab_ok rfl (by omega) (by omega) ?_
    refine zE tab_ok rfl rfl ?_
    refine Sq.minmax rfl ?_
    repeat' (first|refine zS ?_|refine zR ?_|refine zE tab_ok rfl rfl ?_|refine zN ?_|(refine zG rfl rfl (fun _ => ?_) fun _ => ?_)<;>refine zE tab_ok rfl rfl ?_|(refine zC rfl (fun _ => ?_) fun _ => ?_)<;>try (rename_i h; cases h; done)|refine zB ?_|refine zK ?_|refine zZ ⟨_, rfl, ?_⟩)
    refine zG rfl rfl (fun h4 => ?_) (fun h4 => ?_)
    · repeat' (first|refine zS ?_|refine zR ?_|refine zE tab_ok rfl rfl ?_|refine zN ?_|(refine zG rfl rfl (fun _ => ?_) fun _ => ?_)<;>refine zE tab_ok rfl rfl ?_|(refine zC rfl (fun _ => ?_) fun _ => ?_)<;>try (rename_i h; cases h; done)|refine zB ?_|refine zK ?_|refine zZ ⟨_, rfl, ?_⟩)
      rfl
    refine Sq.indexA (j := 0) (len := 2) tab_ok rfl (by omega) (by omega) ?_
    refine zE tab_ok rfl rfl ?_
    refine Sq.indexA (j := 1) (len := 2) tab_ok rfl (by omega) (by omega) ?_
    refine zE tab_ok rfl rfl ?_
    refine Sq.minmax rfl ?_
    repeat' (first|refine zS ?_|refine zR ?_|refine zE tab_ok rfl rfl ?_|refine zN ?_|(refine zG rfl rfl (fun _ => ?_) fun _ => ?_)<;>refine zE tab_ok rfl rfl ?_|(refine zC rfl (fun _ => ?_) fun _ => ?_)<;>try (rename_i h; cases h; done)|refine zB ?_|refine zK ?_|refine zZ ⟨_, rfl, ?_⟩)
    · rfl
    rename_i h5
    have h4 := of_decide_eq_false h4
    have h5 := of_decide_eq_false h5
    refine ⟨k + 1, ⟨by omega, fun j p hj hp => ?_⟩, by omega, Sub.app (l := [_, _, _, _, _]) (H := []) ⟨rfl, rfl, rfl, rfl, congrArg some (wrapz (by omega) (by omega) (by omega)), trivial⟩ (fun κ v h => nomatch h)⟩
    by_cases e : j = k
    · subst e
      obtain rfl := Option.some.inj (hpk.symm.trans hp)
      unfold validI
      simp only
      split at h4 <;> split at h5 <;> omega
    · exact hinv j p (by omega) hp
  · rename_i h2
    have h2 : decide ((k : Int) < ((B.map stI).length : Int)) = false := h2
    have hge : B.length ≤ k := by simp only [List.length_map, decide_eq_false_iff_not] at h2; omega
    exfalso
    obtain ⟨p, hp, hv⟩ := hb
    obtain ⟨j, hj⟩ := List.getElem?_of_mem hp
    exact hv (hinv j p (by have := (List.getElem?_eq_some_iff.1 hj).1; omega) hj)
theorem orderI_ok (n : Nat) (B : List (Int × Int)) (hn : n ≤ 64) (hl : B.length ≤ 4096) (hb : ∃ p, p ∈ B ∧ ¬ validI n p) : Fn Tryz.prog Gw 49 [.tr (.ag [.sc (.int .i64 (n : Nat)), .ls (B.map stI)])] [] (· = .tup [.tr (.ls []), int 20]) := by
  have hK := gCheckI_ok n B hn hl hb
  refine Fn.of tab_ok Tryz.func49 rfl (by decide) (by simp [Tryz.f49]) rfl (fun κ v h => by cases h) Gw.below ?_
  repeat' (first|refine zS ?_|refine zR ?_|refine zE tab_ok rfl rfl ?_|refine zN ?_|(refine zG rfl rfl (fun _ => ?_) fun _ => ?_)<;>refine zE tab_ok rfl rfl ?_|(refine zC rfl (fun _ => ?_) fun _ => ?_)<;>try (rename_i h; cases h; done)|refine zB ?_|refine zK ?_|refine zZ ⟨_, rfl, ?_⟩)
  refine Tr.scopeS (ι := Unit) 0 rfl (fun _ => []) (fun _ => 0) (fun _ => False) ?_ (fun i h => h.elim)
  repeat' (first|refine zS ?_|refine zR ?_|refine zE tab_ok rfl rfl ?_|refine zN ?_|(refine zG rfl rfl (fun _ => ?_) fun _ => ?_)<;>refine zE tab_ok rfl rfl ?_|(refine zC rfl (fun _ => ?_) fun _ => ?_)<;>try (rename_i h; cases h; done)|refine zB ?_|refine zK ?_|refine zZ ⟨_, rfl, ?_⟩)
  refine Sq.callv rfl (hK) ?_
  repeat' (first|refine zS ?_|refine zR ?_|refine zE tab_ok rfl rfl ?_|refine zN ?_|(refine zG rfl rfl (fun _ => ?_) fun _ => ?_)<;>refine zE tab_ok rfl rfl ?_|(refine zC rfl (fun _ => ?_) fun _ => ?_)<;>try (rename_i h; cases h; done)|refine zB ?_|refine zK ?_|refine zZ ⟨_, rfl, ?_⟩)
  rfl
theorem checkE_ok {c : Ctl} (hok : Ctl.ok c) (hc : c.length ≤ 12) (hlv : LvOk c) (f t : List Int) (X Y : List T) (hez : endsV c f t ≠ 0) : Fn Tryz.prog Gw 21 [.tr (ctlT c), .tr (plI f t X Y)] [] (· = int (endsV c f t)) := by
  have hE := ends_ok hok (by omega) hlv f t
  generalize endsV c f t = z at *
  refine Fn.of tab_ok Tryz.func21 rfl (by decide) (by simp [Tryz.f21]) rfl (fun κ v h => by cases h) Gw.below ?_
  repeat' (first|refine zS ?_|refine zR ?_|refine zE tab_ok rfl rfl ?_|refine zN ?_|(refine zG rfl rfl (fun _ => ?_) fun _ => ?_)<;>refine zE tab_ok rfl rfl ?_|(refine zC rfl (fun _ => ?_) fun _ => ?_)<;>try (rename_i h; cases h; done)|refine zB ?_|refine zK ?_|refine zZ ⟨_, rfl, ?_⟩)
  refine Sq.callv rfl (hE) ?_
  repeat' (first|refine zS ?_|refine zR ?_|refine zE tab_ok rfl rfl ?_|refine zN ?_|(refine zG rfl rfl (fun _ => ?_) fun _ => ?_)<;>refine zE tab_ok rfl rfl ?_|(refine zC rfl (fun _ => ?_) fun _ => ?_)<;>try (rename_i h; cases h; done)|refine zB ?_|refine zK ?_|refine zZ ⟨_, rfl, ?_⟩)
  · rfl
  all_goals
    rename_i h
    have h : (z != 0) = false := h
    simp at h; exact absurd h hez
theorem checkL_ok {c : Ctl} (hok : Ctl.ok c) (hc : c.length ≤ 12) (hlv : LvOk c) (f t : List Int) (l B : List (Int × Int)) (hez : endsV c f t = 0) (hl : l.length ≤ 1000) (he : B.length ≤ 1000) (hne : l ≠ (stepsV c f t).map stZ) (hfl : f.length ≤ 1000) :
    Fn Tryz.prog Gw 21 [.tr (ctlT c), .tr (plI f t (l.map stI) (B.map stI))] [] (· = int 45) := by
  have hE := ends_ok hok (by omega) hlv f t
  rw [hez] at hE
  have hends := ends0 hez
  have hS := steps_ok hlv hends.rf hends.rt hfl
  have hGr := graphI_ok f t l B he
  have hEq := eqStepsI_ok l ((stepsV c f t).map stZ) (by omega)
  rw [decide_eq_false hne, List.map_map] at hEq
  have hEq : Fn Tryz.prog Gw 55 [.tr (.ls (l.map stI)), .tr (.ls ((stepsV c f t).map stpT))] [] (· = bool false) := hEq
  generalize stepsV c f t = L at *
  refine Fn.of tab_ok Tryz.func21 rfl (by decide) (by simp [Tryz.f21]) rfl (fun κ v h => by cases h) Gw.below ?_
  repeat' (first|refine zS ?_|refine zR ?_|refine zE tab_ok rfl rfl ?_|refine zN ?_|(refine zG rfl rfl (fun _ => ?_) fun _ => ?_)<;>refine zE tab_ok rfl rfl ?_|(refine zC rfl (fun _ => ?_) fun _ => ?_)<;>try (rename_i h; cases h; done)|refine zB ?_|refine zK ?_|refine zZ ⟨_, rfl, ?_⟩)
  refine Sq.callv rfl (hE) ?_
  repeat' (first|refine zS ?_|refine zR ?_|refine zE tab_ok rfl rfl ?_|refine zN ?_|(refine zG rfl rfl (fun _ => ?_) fun _ => ?_)<;>refine zE tab_ok rfl rfl ?_|(refine zC rfl (fun _ => ?_) fun _ => ?_)<;>try (rename_i h; cases h; done)|refine zB ?_|refine zK ?_|refine zZ ⟨_, rfl, ?_⟩)
  refine Sq.callv rfl (hGr) ?_
  repeat' (first|refine zS ?_|refine zR ?_|refine zE tab_ok rfl rfl ?_|refine zN ?_|(refine zG rfl rfl (fun _ => ?_) fun _ => ?_)<;>refine zE tab_ok rfl rfl ?_|(refine zC rfl (fun _ => ?_) fun _ => ?_)<;>try (rename_i h; cases h; done)|refine zB ?_|refine zK ?_|refine zZ ⟨_, rfl, ?_⟩)
  refine Tr.drawn ( zD tab_ok rfl rfl <| zD tab_ok rfl rfl <| zD tab_ok rfl rfl <| zD tab_ok rfl rfl <| zD tab_ok rfl rfl <| zD tab_ok rfl rfl <| zD tab_ok rfl rfl <| DSq.call rfl (fun _ => rfl) (hS) <| DSq.call rfl (fun _ => rfl) (hEq) <| zD tab_ok rfl rfl <| DSq.nil _) mix_ok rfl ?_
  repeat' (first|refine zS ?_|refine zR ?_|refine zE tab_ok rfl rfl ?_|refine zN ?_|(refine zG rfl rfl (fun _ => ?_) fun _ => ?_)<;>refine zE tab_ok rfl rfl ?_|(refine zC rfl (fun _ => ?_) fun _ => ?_)<;>try (rename_i h; cases h; done)|refine zB ?_|refine zK ?_|refine zZ ⟨_, rfl, ?_⟩)
  rfl
theorem checkB_ok {c : Ctl} (hok : Ctl.ok c) (hc : c.length ≤ 12) (hlv : LvOk c) (f t : List Int) (B : List (Int × Int)) (hez : endsV c f t = 0) (he : B.length ≤ 1000) (hb : ∃ p, p ∈ B ∧ ¬ validI (stepsV c f t).length p) :
    Fn Tryz.prog Gw 21 [.tr (ctlT c), .tr (plI f t ((stepsV c f t).map stpT) (B.map stI))] [] (· = int 45) := by
  have hE := ends_ok hok (by omega) hlv f t
  rw [hez] at hE
  have hends := ends0 hez
  have hf12 : f.length ≤ 12 := by have := (rightV_at hends.rf).1; omega
  have hS := steps_ok hlv hends.rf hends.rt (by omega)
  obtain ⟨hl36, _⟩ := steps_facts (c := c) (t := t) hf12
  have hGr := graphI_ok f t ((stepsV c f t).map stZ) B he
  rw [List.map_map, List.length_map] at hGr
  have hGr : Fn Tryz.prog Gw 39 [.tr (plI f t ((stepsV c f t).map stpT) (B.map stI))] [] (· = .tr (T.ag [.sc (.int .i64 ((stepsV c f t).length : Nat)), .ls (B.map stI)])) := hGr
  have hEq := eqSteps_ok (stepsV c f t) (stepsV c f t) (by omega)
  rw [decide_eq_true rfl] at hEq
  have hO := orderI_ok _ B (show (stepsV c f t).length ≤ 64 by omega) (by omega) hb
  generalize stepsV c f t = L at *
  refine Fn.of tab_ok Tryz.func21 rfl (by decide) (by simp [Tryz.f21]) rfl (fun κ v h => by cases h) Gw.below ?_
  repeat' (first|refine zS ?_|refine zR ?_|refine zE tab_ok rfl rfl ?_|refine zN ?_|(refine zG rfl rfl (fun _ => ?_) fun _ => ?_)<;>refine zE tab_ok rfl rfl ?_|(refine zC rfl (fun _ => ?_) fun _ => ?_)<;>try (rename_i h; cases h; done)|refine zB ?_|refine zK ?_|refine zZ ⟨_, rfl, ?_⟩)
  refine Sq.callv rfl (hE) ?_
  repeat' (first|refine zS ?_|refine zR ?_|refine zE tab_ok rfl rfl ?_|refine zN ?_|(refine zG rfl rfl (fun _ => ?_) fun _ => ?_)<;>refine zE tab_ok rfl rfl ?_|(refine zC rfl (fun _ => ?_) fun _ => ?_)<;>try (rename_i h; cases h; done)|refine zB ?_|refine zK ?_|refine zZ ⟨_, rfl, ?_⟩)
  refine Sq.callv rfl (hGr) ?_
  repeat' (first|refine zS ?_|refine zR ?_|refine zE tab_ok rfl rfl ?_|refine zN ?_|(refine zG rfl rfl (fun _ => ?_) fun _ => ?_)<;>refine zE tab_ok rfl rfl ?_|(refine zC rfl (fun _ => ?_) fun _ => ?_)<;>try (rename_i h; cases h; done)|refine zB ?_|refine zK ?_|refine zZ ⟨_, rfl, ?_⟩)
  refine Tr.drawn ( zD tab_ok rfl rfl <| zD tab_ok rfl rfl <| zD tab_ok rfl rfl <| zD tab_ok rfl rfl <| zD tab_ok rfl rfl <| zD tab_ok rfl rfl <| zD tab_ok rfl rfl <| DSq.call rfl (fun _ => rfl) (hS) <| DSq.call rfl (fun _ => rfl) (hEq) <| zD tab_ok rfl rfl <| DSq.nil _) mix_ok rfl ?_
  repeat' (first|refine zS ?_|refine zR ?_|refine zE tab_ok rfl rfl ?_|refine zN ?_|(refine zG rfl rfl (fun _ => ?_) fun _ => ?_)<;>refine zE tab_ok rfl rfl ?_|(refine zC rfl (fun _ => ?_) fun _ => ?_)<;>try (rename_i h; cases h; done)|refine zB ?_|refine zK ?_|refine zZ ⟨_, rfl, ?_⟩)
  refine Sq.callv rfl (hO) ?_
  repeat' (first|refine zS ?_|refine zR ?_|refine zE tab_ok rfl rfl ?_|refine zN ?_|(refine zG rfl rfl (fun _ => ?_) fun _ => ?_)<;>refine zE tab_ok rfl rfl ?_|(refine zC rfl (fun _ => ?_) fun _ => ?_)<;>try (rename_i h; cases h; done)|refine zB ?_|refine zK ?_|refine zZ ⟨_, rfl, ?_⟩)
  rfl
end Go.Lg.Tryz

set_option linter.unusedVariables false
set_option linter.unusedSimpArgs false
namespace Go.Lg.Tryz
open Go Go.Proofs Go.RowKit Go.Lib Go.Lg.Sem
open Classical in
theorem bits_ex (P : Nat → Prop) : ∀ n, n ≤ 64 → ∃ m, m < 2 ^ n ∧ ∀ j, (BitVec.ofNat 64 m).getLsbD j = true ↔ j < n ∧ P j := by
  intro n
  induction n with
  | zero => intro _; exact ⟨0, by simp, fun j => by simp⟩
  | succ n ih =>
    intro hn
    obtain ⟨m, hm, hb⟩ := ih (by omega)
    by_cases hP : P n
    · refine ⟨2 ^ n + m, by rw [Nat.pow_succ]; omega, fun j => ?_⟩
      rw [BitVec.getLsbD_ofNat] at *
      have hb' := hb j
      rw [BitVec.getLsbD_ofNat] at hb'
      by_cases e : j = n
      · subst e
        rw [Nat.testBit_two_pow_add_eq, Nat.testBit_lt_two_pow hm]
        constructor
        · intro _; exact ⟨by omega, hP⟩
        · intro _; simp; omega
      · rcases Nat.lt_or_gt_of_ne e with h | h
        · rw [Nat.testBit_two_pow_add_gt (by omega)]
          rw [hb']
          constructor
          · rintro ⟨h1, h2⟩; exact ⟨by omega, h2⟩
          · rintro ⟨h1, h2⟩; exact ⟨by omega, h2⟩
        · rw [Nat.testBit_lt_two_pow (by have : 2 ^ (n + 1) ≤ 2 ^ j := Nat.pow_le_pow_right (by omega) (by omega); rw [Nat.pow_succ] at this; omega)]
          simp; intro h1; omega
    · refine ⟨m, by rw [Nat.pow_succ]; omega, fun j => ?_⟩
      rw [hb]
      constructor
      · rintro ⟨h1, h2⟩; exact ⟨by omega, h2⟩
      · rintro ⟨h1, h2⟩
        refine ⟨?_, h2⟩
        rcases Nat.lt_succ_iff_lt_or_eq.1 h1 with h | h
        · exact h
        · subst h; exact absurd h2 hP
theorem steps_next (c : Ctl) (f t : List Int) : ∀ (n i k : Nat) (a b : Stp), (stepsUp c f t n)[i]? = some a → (stepsUp c f t n)[k]? = some b → a.s = b.s → b.k = a.k + 1 → k = i + 1 := by
  intro n
  induction n with
  | zero => intro i k a b h; simp [stepsUp] at h
  | succ n ih =>
    intro i k a b ha hb hs hk
    rw [stepsUp_succ] at ha hb
    rcases Nat.lt_or_ge k (stepsUp c f t n).length with h | h
    · rw [List.getElem?_append_left h] at hb
      have hbn := (stepsUp_mem.1 (List.mem_of_getElem? hb)).1
      rcases Nat.lt_or_ge i (stepsUp c f t n).length with h2 | h2
      · rw [List.getElem?_append_left h2] at ha
        exact ih i k a b ha hb hs hk
      · rw [List.getElem?_append_right h2] at ha
        have := (stepsAt_mem (List.mem_of_getElem? ha)).1
        omega
    · rw [List.getElem?_append_right h] at hb
      have hbn := (stepsAt_mem (List.mem_of_getElem? hb)).1
      rcases Nat.lt_or_ge i (stepsUp c f t n).length with h2 | h2
      · rw [List.getElem?_append_left h2] at ha
        have := (stepsUp_mem.1 (List.mem_of_getElem? ha)).1
        omega
      · rw [List.getElem?_append_right h2] at ha
        suffices k - (stepsUp c f t n).length = i - (stepsUp c f t n).length + 1 by omega
        generalize k - (stepsUp c f t n).length = j at *
        generalize i - (stepsUp c f t n).length = j' at *
        have one : ∀ {l : List Stp} {x : Stp} {j : Nat}, l = [⟨n, 2⟩] → l[j]? = some x → x.k = 2 := by
          intro l x j e h
          subst e
          have := List.mem_of_getElem? h
          simp at this; subst this; rfl
        have three : ∀ {l : List Stp} {x : Stp} {j : Nat}, l = [⟨n, 1⟩, ⟨n, 2⟩, ⟨n, 3⟩] → l[j]? = some x → x.k = j + 1 := by
          intro l x j e h
          subst e
          match j with
          | 0 => simp at h; subst h; rfl
          | 1 => simp at h; subst h; rfl
          | 2 => simp at h; subst h; rfl
          | j + 3 => simp at h
        unfold stepsAt at ha hb
        by_cases h3 : vAt f n = vAt t n
        · rw [if_pos h3] at ha; cases ha
        · rw [if_neg h3] at ha hb
          by_cases h4 : riseV c f t n = 0
          · rw [if_pos h4] at ha hb
            have := one rfl ha
            have := one rfl hb
            omega
          · rw [if_neg h4] at ha hb
            have := three rfl ha
            have := three rfl hb
            omega
theorem bad_set {c : Ctl} {f t : List Int} (E : Ends0 c f t) {e : List (Nat × Nat)} (hn : (stepsV c f t).length ≤ 64) (hp : ∀ p, p ∈ e → p.1 < (stepsV c f t).length ∧ p.2 < (stepsV c f t).length)
    (hadj : ∀ k a b, (stepsV c f t)[k]? = some a → (stepsV c f t)[k + 1]? = some b → a.s = b.s → EdgeWay e k (k + 1)) (hnr : ¬ RchP c f t (stepsV c f t) e) :
    ∃ m, m < 2 ^ (stepsV c f t).length ∧ closedB e (BitVec.ofNat 64 m) = true ∧ goodB c ((fleetL c f t (chs (BitVec.ofNat 64 m) (stepsV c f t) (stepsV c f t).length)).map toPl) = false := by
  have hnd : (stepsV c f t).Nodup := stepsUp_nodup c f t f.length
  have hnx := steps_next c f t f.length
  have hmem : ∀ a, a ∈ stepsV c f t → a.s < f.length := fun a ha => (stepsUp_mem.1 ha).1
  have hbad : ∃ i k a b, (stepsV c f t)[i]? = some a ∧ (stepsV c f t)[k]? = some b ∧ aheadS c f t a b = true ∧ ¬ EdgeWay e i k := by
    apply Classical.byContradiction
    intro hno
    apply hnr
    intro i k a b ha hb hab
    apply Classical.byContradiction
    intro hw
    exact hno ⟨i, k, a, b, ha, hb, hab, hw⟩
  obtain ⟨i, k, a, b, ha, hb, hab, hw⟩ := hbad
  unfold aheadS at hab
  by_cases hs : a.s = b.s
  · rw [if_pos hs, beq_iff_eq] at hab
    have := hnx i k a b ha hb hs hab
    subst this
    exact absurd (hadj i a b ha hb hs) hw
  rw [if_neg hs] at hab
  simp only [Bool.and_eq_true, beq_iff_eq, Bool.not_eq_true'] at hab
  obtain ⟨⟨ak, bk⟩, hfit⟩ := hab
  have hil := (List.getElem?_eq_some_iff.1 ha).1
  have hkl := (List.getElem?_eq_some_iff.1 hb).1
  have has := hmem a (List.mem_of_getElem? ha)
  have hbs := hmem b (List.mem_of_getElem? hb)
  obtain ⟨m, hm, hbit⟩ := bits_ex (fun j => j = k ∨ EdgeWay e j k) (stepsV c f t).length hn
  refine ⟨m, hm, ?_, ?_⟩
  · unfold closedB
    rw [List.all_eq_true]
    intro p hpm
    cases h2 : (BitVec.ofNat 64 m).getLsbD p.2
    · rfl
    · have := (hbit p.2).1 h2
      have h1 : (BitVec.ofNat 64 m).getLsbD p.1 = true := (hbit p.1).2 ⟨(hp p hpm).1, by
        rcases this.2 with h | h
        · right; rw [← h]; exact .one hpm
        · right; exact EdgeWay.trans (.one hpm) h⟩
      rw [h1]; rfl
  have hib : (BitVec.ofNat 64 m).getLsbD i = false := by
    cases h : (BitVec.ofNat 64 m).getLsbD i
    · rfl
    · rcases ((hbit i).1 h).2 with h2 | h2
      · subst h2; rw [ha] at hb; obtain rfl := Option.some.inj hb; exact absurd rfl hs
      · exact absurd h2 hw
  have hkb := (hbit k).2 ⟨hkl, .inl rfl⟩
  generalize BitVec.ofNat 64 m = g at *
  have hcn := chs_nodup (g := g) hnd (stepsV c f t).length
  have hbin : (⟨b.s, 2⟩ : Stp) ∈ chs g (stepsV c f t) (stepsV c f t).length := chs_mem.2 ⟨k, hkl, hkb, by rw [hb, ← bk]⟩
  have hain : (⟨a.s, 2⟩ : Stp) ∉ chs g (stepsV c f t) (stepsV c f t).length := by
    intro h
    obtain ⟨j, hj, hjb, hje⟩ := chs_mem.1 h
    have : i = j := by
      have e1 : (stepsV c f t)[i]? = (stepsV c f t)[j]? := by rw [ha, hje, ← ak]
      rw [List.getElem?_eq_getElem hil, List.getElem?_eq_getElem hj] at e1
      have e1 := Option.some.inj e1
      rcases Nat.lt_trichotomy i j with h | h | h
      · exact absurd e1 (List.pairwise_iff_getElem.1 hnd i j hil hj h)
      · exact h
      · exact absurd e1.symm (List.pairwise_iff_getElem.1 hnd j i hj hil h)
    subst this
    rw [hib] at hjb; cases hjb
  have va : (fleetAt c f t (chs g (stepsV c f t) (stepsV c f t).length) a.s).1 = vAt f a.s := by
    unfold fleetAt
    rw [cnt2_eq hcn, if_neg hain]; simp
  have vb : (fleetAt c f t (chs g (stepsV c f t) (stepsV c f t).length) b.s).1 = vAt t b.s := by
    unfold fleetAt
    rw [cnt2_eq hcn, if_pos hbin]; simp; omega
  generalize chs g (stepsV c f t) (stepsV c f t).length = CH at *
  have hat : ∀ j, j < f.length → ((fleetL c f t CH).map toPl)[j]? = some (toPl (fleetAt c f t CH j)) := fun j hj => by rw [List.getElem?_map, fleetL_at c f t CH hj]; rfl
  cases hg : goodB c ((fleetL c f t CH).map toPl)
  · rfl
  · exfalso
    unfold goodB at hg
    rw [List.length_map, fleetL_len, Bool.and_eq_true, List.all_eq_true] at hg
    have fit : ∀ x y, y < x → x < f.length → fitsB c x (fleetAt c f t CH x).1 y (fleetAt c f t CH y).1 = true := by
      intro x y hyx hx
      have h1 := hg.2 x (List.mem_range.2 hx)
      unfold goodAt at h1
      rw [hat x hx] at h1
      simp only [Bool.and_eq_true, List.all_eq_true] at h1
      have h2 := h1.2 y (List.mem_range.2 hyx)
      rw [hat y (by omega)] at h2
      exact h2
    rcases Nat.lt_or_gt_of_ne hs with h | h
    · have := fit b.s a.s h hbs
      rw [va, vb, fits_comm, hfit] at this; cases this
    · have := fit a.s b.s h has
      rw [va, vb, hfit] at this; cases this
end Go.Lg.Tryz

set_option linter.unusedVariables false
set_option linter.unusedSimpArgs false
namespace Go.Lg.Tryz
open Go Go.Proofs Go.RowKit Go.Lib Go.Lg.Sem
theorem ways_val {n : Nat} {es : List (Nat × Nat)} {a y : Nat} (hy : y < n) : ∃ b, (waysL n es a)[y]? = some b ∧ (b = true ↔ EdgeWay es a y) := by
  unfold waysL
  rw [List.getElem?_map, List.getElem?_range hy]
  exact ⟨_, rfl, by simp⟩
theorem refPGraphY_ok (f t : List Int) (X Y : List T) :
    Fn Tryz.prog Gw 25 [.tr (plI f t X Y)] [] (· = .tr (.ag [.sc (.int .i64 (X.length : Nat)), .ls Y])) := by
  refine Fn.of tab_ok Tryz.func25 rfl (by decide) (by simp [Tryz.f25]) rfl (fun κ v h => by cases h) Gw.below ?_
  repeat' (first|refine zS ?_|refine zR ?_|refine zE tab_ok rfl rfl ?_|refine zN ?_|(refine zG rfl rfl (fun _ => ?_) fun _ => ?_)<;>refine zE tab_ok rfl rfl ?_|(refine zC rfl (fun _ => ?_) fun _ => ?_)<;>try (rename_i h; cases h; done)|refine zB ?_|refine zK ?_|refine zZ ⟨_, rfl, ?_⟩)
  rfl
theorem refGRightI_ok (n : Nat) (B : List (Int × Int)) (hn : n ≤ 64) (hl : B.length ≤ 4096) (hb : ∃ p, p ∈ B ∧ ¬ validI n p) : Fn Tryz.prog Gw 57 [.tr (.ag [.sc (.int .i64 (n : Nat)), .ls (B.map stI)])] [] (· = bool false) := by
  refine Fn.of tab_ok Tryz.func57 rfl (by decide) (by simp [Tryz.f57]) rfl (fun κ v h => by cases h) Gw.below ?_
  repeat' (first|refine zS ?_|refine zR ?_|refine zE tab_ok rfl rfl ?_|refine zN ?_|(refine zG rfl rfl (fun _ => ?_) fun _ => ?_)<;>refine zE tab_ok rfl rfl ?_|(refine zC rfl (fun _ => ?_) fun _ => ?_)<;>try (rename_i h; cases h; done)|refine zB ?_|refine zK ?_|refine zZ ⟨_, rfl, ?_⟩)
  · exfalso; simp only [decide_eq_true_eq, decide_eq_false_iff_not, List.length_map] at *; omega
  · exfalso; simp only [decide_eq_true_eq, decide_eq_false_iff_not, List.length_map] at *; omega
  refine Tr.loopS (fun k : Nat => [(.s 1, .ptr (.l 1) 0), (.l 1, .blk 69 [int n, .tr (.ls (B.map stI))]), (.s 3, int k)]) (fun k => B.length - k)
    (fun k => k ≤ B.length ∧ ∀ j p, j < k → B[j]? = some p → validI n p) 0 ⟨by omega, fun j p h => by omega⟩ (Sub.app (l := [_, _, _]) (H := []) ⟨rfl, rfl, rfl, trivial⟩ (fun κ v h => nomatch h)) ?_
  rintro k ⟨hk, hinv⟩
  repeat' (first|refine zS ?_|refine zR ?_|refine zE tab_ok rfl rfl ?_|refine zN ?_|(refine zG rfl rfl (fun _ => ?_) fun _ => ?_)<;>refine zE tab_ok rfl rfl ?_|(refine zC rfl (fun _ => ?_) fun _ => ?_)<;>try (rename_i h; cases h; done)|refine zB ?_|refine zK ?_|refine zZ ⟨_, rfl, ?_⟩)
  · rename_i h2
    have h2 : decide ((k : Int) < ((B.map stI).length : Int)) = true := h2
    have hlt : k < B.length := by simp only [List.length_map, decide_eq_true_eq] at h2; omega
    obtain ⟨⟨u, v⟩, hpk⟩ : ∃ p, B[k]? = some p := ⟨_, List.getElem?_eq_getElem hlt⟩
    have hpe : (B.map stI)[((k : Nat) : Int).toNat]? = some (stI (u, v)) := by simp [hpk]
    refine zI (x := stI (u, v)) tab_ok rfl (by omega) (hpe) rfl ?_
    refine Sq.indexAE tab_ok rfl (by omega) (by omega) ?_
    repeat' (first|refine zS ?_|refine zR ?_|refine zE tab_ok rfl rfl ?_|refine zN ?_|(refine zG rfl rfl (fun _ => ?_) fun _ => ?_)<;>refine zE tab_ok rfl rfl ?_|(refine zC rfl (fun _ => ?_) fun _ => ?_)<;>try (rename_i h; cases h; done)|refine zB ?_|refine zK ?_|refine zZ ⟨_, rfl, ?_⟩)
    refine zI (x := stI (u, v)) tab_ok rfl (by omega) (hpe) rfl ?_
    refine Sq.indexAE tab_ok rfl (by omega) (by omega) ?_
    repeat' (first|refine zS ?_|refine zR ?_|refine zE tab_ok rfl rfl ?_|refine zN ?_|(refine zG rfl rfl (fun _ => ?_) fun _ => ?_)<;>refine zE tab_ok rfl rfl ?_|(refine zC rfl (fun _ => ?_) fun _ => ?_)<;>try (rename_i h; cases h; done)|refine zB ?_|refine zK ?_|refine zZ ⟨_, rfl, ?_⟩)
    · rfl
    · rfl
    · rfl
    · rfl
    rename_i h3 h4 h5 h6
    have h3 := of_decide_eq_false h3
    have h4 := of_decide_eq_false h4
    have h5 := of_decide_eq_false h5
    have h6 := of_decide_eq_false h6
    refine ⟨k + 1, ⟨by omega, fun j p hj hp => ?_⟩, by omega, Sub.app (l := [_, _, _]) (H := []) ⟨rfl, rfl, congrArg some (wrapz (by omega) (by omega) (by omega)), trivial⟩ (fun κ v h => nomatch h)⟩
    by_cases e : j = k
    · subst e
      obtain rfl := Option.some.inj (hpk.symm.trans hp)
      unfold validI
      simp only
      omega
    · exact hinv j p (by omega) hp
  · rename_i h2
    have h2 : decide ((k : Int) < ((B.map stI).length : Int)) = false := h2
    have hge : B.length ≤ k := by simp only [List.length_map, decide_eq_false_iff_not] at h2; omega
    exfalso
    obtain ⟨p, hp, hv⟩ := hb
    obtain ⟨j, hj⟩ := List.getElem?_of_mem hp
    exact hv (hinv j p (by have := (List.getElem?_eq_some_iff.1 hj).1; omega) hj)
theorem refCheckE_ok {c : Ctl} (hok : Ctl.ok c) (hc : c.length ≤ 12) (hlv : LvOk c) (f t : List Int) (X Y : List T) (hez : endsV c f t ≠ 0) : Fn Tryz.prog Gw 22 [.tr (ctlT c), .tr (plI f t X Y)] [] (· = int (endsV c f t)) := by
  have hE := refEnds_ok hok (by omega) hlv f t
  generalize endsV c f t = z at *
  refine Fn.of tab_ok Tryz.func22 rfl (by decide) (by simp [Tryz.f22]) rfl (fun κ v h => by cases h) Gw.below ?_
  repeat' (first|refine zS ?_|refine zR ?_|refine zE tab_ok rfl rfl ?_|refine zN ?_|(refine zG rfl rfl (fun _ => ?_) fun _ => ?_)<;>refine zE tab_ok rfl rfl ?_|(refine zC rfl (fun _ => ?_) fun _ => ?_)<;>try (rename_i h; cases h; done)|refine zB ?_|refine zK ?_|refine zZ ⟨_, rfl, ?_⟩)
  refine Sq.callv rfl (hE) ?_
  repeat' (first|refine zS ?_|refine zR ?_|refine zE tab_ok rfl rfl ?_|refine zN ?_|(refine zG rfl rfl (fun _ => ?_) fun _ => ?_)<;>refine zE tab_ok rfl rfl ?_|(refine zC rfl (fun _ => ?_) fun _ => ?_)<;>try (rename_i h; cases h; done)|refine zB ?_|refine zK ?_|refine zZ ⟨_, rfl, ?_⟩)
  · rfl
  all_goals
    rename_i h
    have h : (z != 0) = false := h
    simp at h; exact absurd h hez
theorem refCheckL_ok {c : Ctl} (hok : Ctl.ok c) (hc : c.length ≤ 12) (hlv : LvOk c) (f t : List Int) (l : List (Int × Int)) (Y : List T) (hez : endsV c f t = 0) (hl : l.length ≤ 1000) (hne : l ≠ (stepsV c f t).map stZ) :
    Fn Tryz.prog Gw 22 [.tr (ctlT c), .tr (plI f t (l.map stI) Y)] [] (· = int 45) := by
  have hE := refEnds_ok hok (by omega) hlv f t
  rw [hez] at hE
  have E := ends0 hez
  have hfl := (rightV_at E.rf).1
  have hS := refSteps_ok hlv E.rf E.rt (by omega) E.rise
  have hS : Fn Tryz.prog Gw 20 [.tr (ctlT c), .tr (.ls (f.map intT)), .tr (.ls (t.map intT))] [] (· = .tr (.ls (((stepsV c f t).map stZ).map stI))) := by rw [List.map_map]; exact hS
  generalize (stepsV c f t).map stZ = S at *
  refine Fn.of tab_ok Tryz.func22 rfl (by decide) (by simp [Tryz.f22]) rfl (fun κ v h => by cases h) Gw.below ?_
  repeat' (first|refine zS ?_|refine zR ?_|refine zE tab_ok rfl rfl ?_|refine zN ?_|(refine zG rfl rfl (fun _ => ?_) fun _ => ?_)<;>refine zE tab_ok rfl rfl ?_|(refine zC rfl (fun _ => ?_) fun _ => ?_)<;>try (rename_i h; cases h; done)|refine zB ?_|refine zK ?_|refine zZ ⟨_, rfl, ?_⟩)
  refine Sq.callv rfl (hE) ?_
  repeat' (first|refine zS ?_|refine zR ?_|refine zE tab_ok rfl rfl ?_|refine zN ?_|(refine zG rfl rfl (fun _ => ?_) fun _ => ?_)<;>refine zE tab_ok rfl rfl ?_|(refine zC rfl (fun _ => ?_) fun _ => ?_)<;>try (rename_i h; cases h; done)|refine zB ?_|refine zK ?_|refine zZ ⟨_, rfl, ?_⟩)
  refine Sq.callv rfl (hS) ?_
  repeat' (first|refine zS ?_|refine zR ?_|refine zE tab_ok rfl rfl ?_|refine zN ?_|(refine zG rfl rfl (fun _ => ?_) fun _ => ?_)<;>refine zE tab_ok rfl rfl ?_|(refine zC rfl (fun _ => ?_) fun _ => ?_)<;>try (rename_i h; cases h; done)|refine zB ?_|refine zK ?_|refine zZ ⟨_, rfl, ?_⟩)
  · rfl
  rename_i h1
  have h1 : (((S.map stI).length : Int) != ((l.map stI).length : Int)) = false := h1
  have hlen : S.length = l.length := by simp only [List.length_map, bne_eq_false_iff_eq] at h1; omega
  refine Tr.loopS (fun k : Nat => [(.s 2, .ptr (.l 2) 0), (.l 2, .blk 29 [.tr (.ls (c.map svcT))]), (.s 3, .ptr (.l 3) 0), (.l 3, .blk 41 [.tr (.ls (f.map intT)), .tr (.ls (t.map intT)), .tr (.ls (l.map stI)), .tr (.ls Y)]), (.s 6, .tr (.ls (S.map stI))), (.s 7, int k)]) (fun k => l.length - k) (fun k => k ≤ l.length ∧ S.take k = l.take k)
    0 ⟨by omega, rfl⟩ (Sub.app (l := [_, _, _, _, _, _]) (H := []) ⟨rfl, rfl, rfl, rfl, rfl, rfl, trivial⟩ (fun κ v h => nomatch h)) ?_
  rintro k ⟨hk, htk⟩
  repeat' (first|refine zS ?_|refine zR ?_|refine zE tab_ok rfl rfl ?_|refine zN ?_|(refine zG rfl rfl (fun _ => ?_) fun _ => ?_)<;>refine zE tab_ok rfl rfl ?_|(refine zC rfl (fun _ => ?_) fun _ => ?_)<;>try (rename_i h; cases h; done)|refine zB ?_|refine zK ?_|refine zZ ⟨_, rfl, ?_⟩)
  · rename_i h2
    have h2 : decide ((k : Int) < ((S.map stI).length : Int)) = true := h2
    have hlt : k < l.length := by simp only [List.length_map, decide_eq_true_eq] at h2; omega
    obtain ⟨a, ha⟩ : ∃ a, S[k]? = some a := ⟨_, List.getElem?_eq_getElem (by omega)⟩
    obtain ⟨b, hb⟩ : ∃ a, l[k]? = some a := ⟨_, List.getElem?_eq_getElem hlt⟩
    have hae : (S.map stI)[((k : Nat) : Int).toNat]? = some (stI a) := by simp [ha]
    have hbe : (l.map stI)[((k : Nat) : Int).toNat]? = some (stI b) := by simp [hb]
    refine Tr.drawn ( zD tab_ok rfl rfl <| zD tab_ok rfl rfl <| zO rfl (fun q K hK => zI (x := stI a) tab_ok rfl (by omega) (hae) rfl (zN hK)) <| zD tab_ok rfl rfl <| zD tab_ok rfl rfl <| zD tab_ok rfl rfl <| zD tab_ok rfl rfl <| zO rfl (fun q K hK => zI (x := stI b) tab_ok rfl (by omega) (hbe) rfl (zN hK)) <| zD tab_ok rfl rfl <| DSq.eqag rfl (fun _ => rfl) (by kernel_rfl) (fun w => eqA_rstp 9998 w _ _ _ _) <| DSq.nil _) mix_ok rfl ?_
    rw [stI_eq]
    by_cases he : a = b
    · rw [decide_eq_true he]
      repeat' (first|refine zS ?_|refine zR ?_|refine zE tab_ok rfl rfl ?_|refine zN ?_|(refine zG rfl rfl (fun _ => ?_) fun _ => ?_)<;>refine zE tab_ok rfl rfl ?_|(refine zC rfl (fun _ => ?_) fun _ => ?_)<;>try (rename_i h; cases h; done)|refine zB ?_|refine zK ?_|refine zZ ⟨_, rfl, ?_⟩)
      refine ⟨k + 1, ⟨by omega, ?_⟩, by omega, Sub.app (l := [_, _, _, _, _, _]) (H := []) ⟨rfl, rfl, rfl, rfl, rfl, congrArg some (wrapz (by omega) (by omega) (by omega)), trivial⟩ (fun κ v h => nomatch h)⟩
      rw [List.take_add_one, List.take_add_one, htk, ha, hb, he]
    · rw [decide_eq_false he]
      repeat' (first|refine zS ?_|refine zR ?_|refine zE tab_ok rfl rfl ?_|refine zN ?_|(refine zG rfl rfl (fun _ => ?_) fun _ => ?_)<;>refine zE tab_ok rfl rfl ?_|(refine zC rfl (fun _ => ?_) fun _ => ?_)<;>try (rename_i h; cases h; done)|refine zB ?_|refine zK ?_|refine zZ ⟨_, rfl, ?_⟩)
      rfl
  · rename_i h2
    have h2 : decide ((k : Int) < ((S.map stI).length : Int)) = false := h2
    have hge : k = l.length := by simp only [List.length_map, decide_eq_false_iff_not] at h2; omega
    subst hge
    exfalso
    rw [List.take_of_length_le (by omega), List.take_of_length_le (Nat.le_refl _)] at htk
    exact hne htk.symm
set_option maxRecDepth 8192 in
set_option maxHeartbeats 800000 in
theorem refCheckB_ok {c : Ctl} (hok : Ctl.ok c) (hc : c.length ≤ 12) (hlv : LvOk c) {f t : List Int} (he : endsV c f t = 0) (hl20 : (stepsV c f t).length ≤ 20) (Y : List T)
    (hcase : (∃ B : List (Int × Int), Y = B.map stI ∧ B.length ≤ 1000 ∧ ∃ p, p ∈ B ∧ ¬ validI (stepsV c f t).length p) ∨ ∃ e : List (Nat × Nat), Y = e.map edT ∧ e.length ≤ 1000 ∧ (∀ p, p ∈ e → p.1 < (stepsV c f t).length ∧ p.2 < (stepsV c f t).length) ∧ (CycP (stepsV c f t).length e ∨ ¬ CycP (stepsV c f t).length e ∧ ¬ RchP c f t (stepsV c f t) e)) :
    Fn Tryz.prog Gw 22 [.tr (ctlT c), .tr (plI f t ((stepsV c f t).map stpT) Y)] [] (· = int 45) := by
  have E := ends0 he
  have hE := refEnds_ok hok (by omega) hlv f t
  rw [he] at hE
  have hfl := (rightV_at E.rf).1
  have hS := refSteps_ok hlv E.rf E.rt (by omega) E.rise
  obtain ⟨_, hin⟩ := steps_facts (c := c) (t := t) (f := f) (by omega)
  have hGr := refPGraphY_ok f t ((stepsV c f t).map stpT) Y
  rw [List.length_map] at hGr
  have hBad := fun e (hp : ∀ p : Nat × Nat, p ∈ e → p.1 < (stepsV c f t).length ∧ p.2 < (stepsV c f t).length) hnr hadj => bad_set E (e := e) (by omega) hp hadj hnr
  have hFl := fun e g => refFleet_ok (by omega) hlv E.rf E.rt (stepsV c f t) e (by omega) hin g
  have hGd : ∀ g, Fn Tryz.prog Gw 28 [.tr (ctlT c), .tr (.ls ((fleetL c f t (chs g (stepsV c f t) (stepsV c f t).length)).map pT'))] [] (· = bool (goodB c ((fleetL c f t (chs g (stepsV c f t) (stepsV c f t).length)).map toPl))) := fun g => by
    have := refGood_ok hok hlv (by omega) ((fleetL c f t (chs g (stepsV c f t) (stepsV c f t).length)).map toPl)
    rw [toPl_r] at this
    exact this
  generalize stepsV c f t = l at *
  have hpow : 2 ^ l.length ≤ 2 ^ 20 := Nat.pow_le_pow_right (by omega) hl20
  refine Fn.of tab_ok Tryz.func22 rfl (by decide) (by simp [Tryz.f22]) rfl (fun κ v h => by cases h) Gw.below ?_
  repeat' (first|refine zS ?_|refine zR ?_|refine zE tab_ok rfl rfl ?_|refine zN ?_|(refine zG rfl rfl (fun _ => ?_) fun _ => ?_)<;>refine zE tab_ok rfl rfl ?_|(refine zC rfl (fun _ => ?_) fun _ => ?_)<;>try (rename_i h; cases h; done)|refine zB ?_|refine zK ?_|refine zZ ⟨_, rfl, ?_⟩)
  refine Sq.callv rfl (hE) ?_
  repeat' (first|refine zS ?_|refine zR ?_|refine zE tab_ok rfl rfl ?_|refine zN ?_|(refine zG rfl rfl (fun _ => ?_) fun _ => ?_)<;>refine zE tab_ok rfl rfl ?_|(refine zC rfl (fun _ => ?_) fun _ => ?_)<;>try (rename_i h; cases h; done)|refine zB ?_|refine zK ?_|refine zZ ⟨_, rfl, ?_⟩)
  refine Sq.callv rfl (hS) ?_
  repeat' (first|refine zS ?_|refine zR ?_|refine zE tab_ok rfl rfl ?_|refine zN ?_|(refine zG rfl rfl (fun _ => ?_) fun _ => ?_)<;>refine zE tab_ok rfl rfl ?_|(refine zC rfl (fun _ => ?_) fun _ => ?_)<;>try (rename_i h; cases h; done)|refine zB ?_|refine zK ?_|refine zZ ⟨_, rfl, ?_⟩)
  · rename_i h; exfalso
    have h : (((l.map stpT).length : Int) != ((l.map stpT).length : Int)) = true := h
    simp at h
  refine Tr.loopS (fun k : Nat => [(.s 2, .ptr (.l 2) 0), (.l 2, .blk 29 [.tr (.ls (c.map svcT))]), (.s 3, .ptr (.l 3) 0), (.l 3, .blk 41 [.tr (.ls (f.map intT)), .tr (.ls (t.map intT)), .tr (.ls (l.map stpT)), .tr (.ls Y)]), (.s 6, .tr (.ls (l.map stpT))), (.s 7, int k)]) (fun k => l.length - k) (fun k => k ≤ l.length)
    0 (by omega) (Sub.app (l := [_, _, _, _, _, _]) (H := []) ⟨rfl, rfl, rfl, rfl, rfl, rfl, trivial⟩ (fun κ v h => nomatch h)) ?_
  rintro k hk
  repeat' (first|refine zS ?_|refine zR ?_|refine zE tab_ok rfl rfl ?_|refine zN ?_|(refine zG rfl rfl (fun _ => ?_) fun _ => ?_)<;>refine zE tab_ok rfl rfl ?_|(refine zC rfl (fun _ => ?_) fun _ => ?_)<;>try (rename_i h; cases h; done)|refine zB ?_|refine zK ?_|refine zZ ⟨_, rfl, ?_⟩)
  · rename_i h2
    have h2 : decide ((k : Int) < ((l.map stpT).length : Int)) = true := h2
    have hlt : k < l.length := by simp only [List.length_map, decide_eq_true_eq] at h2; omega
    obtain ⟨a, ha⟩ : ∃ a, l[k]? = some a := ⟨_, List.getElem?_eq_getElem hlt⟩
    have hae : (l.map stpT)[((k : Nat) : Int).toNat]? = some (stpT a) := by simp [ha]
    refine Tr.drawn ( zD tab_ok rfl rfl <| zD tab_ok rfl rfl <| zO rfl (fun q K hK => zI (x := stpT a) tab_ok rfl (by omega) (hae) rfl (zN hK)) <| zD tab_ok rfl rfl <| zD tab_ok rfl rfl <| zD tab_ok rfl rfl <| zD tab_ok rfl rfl <| zO rfl (fun q K hK => zI (x := stpT a) tab_ok rfl (by omega) (hae) rfl (zN hK)) <| zD tab_ok rfl rfl <| DSq.eqag rfl (fun _ => rfl) (by kernel_rfl) (fun w => eqA_rstp 9998 w _ _ _ _) <| DSq.nil _) mix_ok rfl ?_
    rw [stp_eq, decide_eq_true rfl]
    repeat' (first|refine zS ?_|refine zR ?_|refine zE tab_ok rfl rfl ?_|refine zN ?_|(refine zG rfl rfl (fun _ => ?_) fun _ => ?_)<;>refine zE tab_ok rfl rfl ?_|(refine zC rfl (fun _ => ?_) fun _ => ?_)<;>try (rename_i h; cases h; done)|refine zB ?_|refine zK ?_|refine zZ ⟨_, rfl, ?_⟩)
    exact ⟨k + 1, by omega, by omega, Sub.app (l := [_, _, _, _, _, _]) (H := []) ⟨rfl, rfl, rfl, rfl, rfl, congrArg some (wrapz (by omega) (by omega) (by omega)), trivial⟩ (fun κ v h => nomatch h)⟩
  refine Tr.exit ?_
  repeat' (first|refine zS ?_|refine zR ?_|refine zE tab_ok rfl rfl ?_|refine zN ?_|(refine zG rfl rfl (fun _ => ?_) fun _ => ?_)<;>refine zE tab_ok rfl rfl ?_|(refine zC rfl (fun _ => ?_) fun _ => ?_)<;>try (rename_i h; cases h; done)|refine zB ?_|refine zK ?_|refine zZ ⟨_, rfl, ?_⟩)
  refine Sq.callv rfl (hGr) ?_
  repeat' (first|refine zS ?_|refine zR ?_|refine zE tab_ok rfl rfl ?_|refine zN ?_|(refine zG rfl rfl (fun _ => ?_) fun _ => ?_)<;>refine zE tab_ok rfl rfl ?_|(refine zC rfl (fun _ => ?_) fun _ => ?_)<;>try (rename_i h; cases h; done)|refine zB ?_|refine zK ?_|refine zZ ⟨_, rfl, ?_⟩)
  rcases hcase with ⟨B, rfl, hBl, hBb⟩ | ⟨e, rfl, hel, hp, hcase⟩
  · have hRt := refGRightI_ok l.length B (by omega) (by omega) hBb
    refine Sq.callv rfl (hRt) ?_
    repeat' (first|refine zS ?_|refine zR ?_|refine zE tab_ok rfl rfl ?_|refine zN ?_|(refine zG rfl rfl (fun _ => ?_) fun _ => ?_)<;>refine zE tab_ok rfl rfl ?_|(refine zC rfl (fun _ => ?_) fun _ => ?_)<;>try (rename_i h; cases h; done)|refine zB ?_|refine zK ?_|refine zZ ⟨_, rfl, ?_⟩)
    rfl
  have hRt := refGRight_ok _ e (by omega) (by omega) hp
  rcases hcase with hcy | ⟨hcy, hnr⟩
  · have hCi := Circle_ok _ e (by omega) (by omega) hp true ⟨fun _ => hcy, fun _ => rfl⟩
    refine Sq.callv rfl (hRt) ?_
    repeat' (first|refine zS ?_|refine zR ?_|refine zE tab_ok rfl rfl ?_|refine zN ?_|(refine zG rfl rfl (fun _ => ?_) fun _ => ?_)<;>refine zE tab_ok rfl rfl ?_|(refine zC rfl (fun _ => ?_) fun _ => ?_)<;>try (rename_i h; cases h; done)|refine zB ?_|refine zK ?_|refine zZ ⟨_, rfl, ?_⟩)
    refine Sq.callv rfl (hCi) ?_
    repeat' (first|refine zS ?_|refine zR ?_|refine zE tab_ok rfl rfl ?_|refine zN ?_|(refine zG rfl rfl (fun _ => ?_) fun _ => ?_)<;>refine zE tab_ok rfl rfl ?_|(refine zC rfl (fun _ => ?_) fun _ => ?_)<;>try (rename_i h; cases h; done)|refine zB ?_|refine zK ?_|refine zZ ⟨_, rfl, ?_⟩)
    rfl
  have hCi := Circle_ok _ e (by omega) (by omega) hp false ⟨fun h => absurd h (by simp), fun h => absurd h hcy⟩
  have hbad := hBad e hp hnr
  have hF := fun a (ha : a < l.length) => From_ways _ e a ha (by omega) (by omega) hp
  have hCl := fun g => refClosed_ok _ e g (by omega) (by omega) hp
  have hFl := hFl e
  clear hBad hcy hp
  refine Sq.callv rfl (hRt) ?_
  repeat' (first|refine zS ?_|refine zR ?_|refine zE tab_ok rfl rfl ?_|refine zN ?_|(refine zG rfl rfl (fun _ => ?_) fun _ => ?_)<;>refine zE tab_ok rfl rfl ?_|(refine zC rfl (fun _ => ?_) fun _ => ?_)<;>try (rename_i h; cases h; done)|refine zB ?_|refine zK ?_|refine zZ ⟨_, rfl, ?_⟩)
  refine Sq.callv rfl (hCi) ?_
  repeat' (first|refine zS ?_|refine zR ?_|refine zE tab_ok rfl rfl ?_|refine zN ?_|(refine zG rfl rfl (fun _ => ?_) fun _ => ?_)<;>refine zE tab_ok rfl rfl ?_|(refine zC rfl (fun _ => ?_) fun _ => ?_)<;>try (rename_i h; cases h; done)|refine zB ?_|refine zK ?_|refine zZ ⟨_, rfl, ?_⟩)
  refine Tr.loopS (fun k : Nat => [(.s 2, .ptr (.l 2) 0), (.l 2, .blk 29 [.tr (.ls (c.map svcT))]), (.s 3, .ptr (.l 3) 0), (.l 3, .blk 41 [.tr (.ls (f.map intT)), .tr (.ls (t.map intT)), .tr (.ls (l.map stpT)), .tr (.ls (e.map edT))]), (.s 6, .tr (.ls (l.map stpT))), (.s 8, .ptr (.l 8) 0), (.l 8, .blk 69 [int l.length, .tr (.ls (e.map edT))]), (.s 9, int k)]) (fun k => l.length - k) (fun k => k ≤ l.length ∧ ∀ j a b, j < k → l[j]? = some a → l[j + 1]? = some b → a.s = b.s → EdgeWay e j (j + 1))
    0 ⟨by omega, fun j a b h => by omega⟩ (Sub.app (l := [_, _, _, _, _, _, _, _]) (H := []) ⟨rfl, rfl, rfl, rfl, rfl, rfl, rfl, rfl, trivial⟩ (fun κ v h => nomatch h)) ?_
  rintro k ⟨hk, hinv⟩
  have hw1 : IntKind.i64.wrap ((k : Int) + 1) = ((k + 1 : Nat) : Int) := by rw [Go.IntWalk.i64_in _ ⟨by omega, by omega⟩]; rfl
  repeat' (first|refine zS ?_|refine zR ?_|refine zE tab_ok rfl rfl ?_|refine zN ?_|(refine zG rfl rfl (fun _ => ?_) fun _ => ?_)<;>refine zE tab_ok rfl rfl ?_|(refine zC rfl (fun _ => ?_) fun _ => ?_)<;>try (rename_i h; cases h; done)|refine zB ?_|refine zK ?_|refine zZ ⟨_, rfl, ?_⟩)
  · rename_i h2
    have h2 : decide (IntKind.i64.wrap ((k : Int) + 1) < ((l.map stpT).length : Int)) = true := h2
    rw [hw1] at h2
    have hlt : k + 1 < l.length := by simp only [List.length_map, decide_eq_true_eq] at h2; omega
    obtain ⟨a, ha⟩ : ∃ a, l[k]? = some a := ⟨_, List.getElem?_eq_getElem (by omega)⟩
    obtain ⟨b, hb⟩ : ∃ a, l[k + 1]? = some a := ⟨_, List.getElem?_eq_getElem hlt⟩
    have hae : (l.map stpT)[((k : Nat) : Int).toNat]? = some (stpT a) := by simp [ha]
    have hbe : (l.map stpT)[(((k + 1 : Nat) : Nat) : Int).toNat]? = some (stpT b) := by rw [Int.toNat_natCast]; exact (by rw [List.getElem?_map, hb]; rfl)
    have next : (a.s = b.s → EdgeWay e k (k + 1)) → ∀ j a b, j < k + 1 → l[j]? = some a → l[j + 1]? = some b → a.s = b.s → EdgeWay e j (j + 1) := by
      intro h j a' b' hj ha' hb' hs'
      by_cases ej : j = k
      · subst ej
        obtain rfl := Option.some.inj (ha.symm.trans ha')
        obtain rfl := Option.some.inj (hb.symm.trans hb')
        exact h hs'
      · exact hinv j a' b' (by omega) ha' hb' hs'
    by_cases hs : a.s = b.s
    · have hse : ((a.s : Int) == (b.s : Int)) = true := by rw [beq_iff_eq, hs]
      have hFk := hF k (by omega)
      obtain ⟨wb, hwv, hwi⟩ := ways_val (n := l.length) (es := e) (a := k) hlt
      have hwe : ((waysL l.length e k).map boolT)[(((k + 1 : Nat) : Nat) : Int).toNat]? = some (boolT wb) := by rw [Int.toNat_natCast, List.getElem?_map, hwv]; rfl
      generalize waysL l.length e k = W at *
      cases wb
      · refine Tr.drawn ( zD tab_ok rfl rfl <| zD tab_ok rfl rfl <| zO rfl (fun q K hK => zI (x := stpT a) tab_ok rfl (by omega) (hae) rfl (zN hK)) <| zD tab_ok rfl rfl <| zD tab_ok rfl rfl <| zD tab_ok rfl rfl <| zD tab_ok rfl rfl <| DSq.evr tab_ok rfl (congrArg int hw1) <| zO rfl (fun q K hK => zI (x := stpT b) tab_ok rfl (by omega) (hbe) rfl (zN hK)) <| zD tab_ok rfl rfl <| zD tab_ok rfl rfl <| DSq.evr tab_ok rfl (congrArg bool hse) <| zD tab_ok rfl rfl <| zD tab_ok rfl rfl <| zD tab_ok rfl rfl <| DSq.call rfl (fun _ => rfl) (hFk) <| zD tab_ok rfl rfl <| DSq.evr tab_ok rfl (congrArg int hw1) <| zO rfl (fun q K hK => zI (x := boolT false) tab_ok rfl (by omega) (hwe) rfl (zN hK)) <| zD tab_ok rfl rfl <| zD tab_ok rfl rfl <| zD tab_ok rfl rfl <| DSq.nil _) mix_ok rfl ?_
        repeat' (first|refine zS ?_|refine zR ?_|refine zE tab_ok rfl rfl ?_|refine zN ?_|(refine zG rfl rfl (fun _ => ?_) fun _ => ?_)<;>refine zE tab_ok rfl rfl ?_|(refine zC rfl (fun _ => ?_) fun _ => ?_)<;>try (rename_i h; cases h; done)|refine zB ?_|refine zK ?_|refine zZ ⟨_, rfl, ?_⟩)
        rfl
      · refine Tr.drawn ( zD tab_ok rfl rfl <| zD tab_ok rfl rfl <| zO rfl (fun q K hK => zI (x := stpT a) tab_ok rfl (by omega) (hae) rfl (zN hK)) <| zD tab_ok rfl rfl <| zD tab_ok rfl rfl <| zD tab_ok rfl rfl <| zD tab_ok rfl rfl <| DSq.evr tab_ok rfl (congrArg int hw1) <| zO rfl (fun q K hK => zI (x := stpT b) tab_ok rfl (by omega) (hbe) rfl (zN hK)) <| zD tab_ok rfl rfl <| zD tab_ok rfl rfl <| DSq.evr tab_ok rfl (congrArg bool hse) <| zD tab_ok rfl rfl <| zD tab_ok rfl rfl <| zD tab_ok rfl rfl <| DSq.call rfl (fun _ => rfl) (hFk) <| zD tab_ok rfl rfl <| DSq.evr tab_ok rfl (congrArg int hw1) <| zO rfl (fun q K hK => zI (x := boolT true) tab_ok rfl (by omega) (hwe) rfl (zN hK)) <| zD tab_ok rfl rfl <| zD tab_ok rfl rfl <| zD tab_ok rfl rfl <| DSq.nil _) mix_ok rfl ?_
        repeat' (first|refine zS ?_|refine zR ?_|refine zE tab_ok rfl rfl ?_|refine zN ?_|(refine zG rfl rfl (fun _ => ?_) fun _ => ?_)<;>refine zE tab_ok rfl rfl ?_|(refine zC rfl (fun _ => ?_) fun _ => ?_)<;>try (rename_i h; cases h; done)|refine zB ?_|refine zK ?_|refine zZ ⟨_, rfl, ?_⟩)
        exact ⟨k + 1, ⟨by omega, next fun _ => hwi.1 rfl⟩, by omega, Sub.app (l := [_, _, _, _, _, _, _, _]) (H := []) ⟨rfl, rfl, rfl, rfl, rfl, rfl, rfl, congrArg some (wrapz (by omega) (by omega) (by omega)), trivial⟩ (fun κ v h => nomatch h)⟩
    · have hse : ((a.s : Int) == (b.s : Int)) = false := by rw [beq_eq_false_iff_ne]; omega
      refine Tr.drawn ( zD tab_ok rfl rfl <| zD tab_ok rfl rfl <| zO rfl (fun q K hK => zI (x := stpT a) tab_ok rfl (by omega) (hae) rfl (zN hK)) <| zD tab_ok rfl rfl <| zD tab_ok rfl rfl <| zD tab_ok rfl rfl <| zD tab_ok rfl rfl <| DSq.evr tab_ok rfl (congrArg int hw1) <| zO rfl (fun q K hK => zI (x := stpT b) tab_ok rfl (by omega) (hbe) rfl (zN hK)) <| zD tab_ok rfl rfl <| zD tab_ok rfl rfl <| DSq.evr tab_ok rfl (congrArg bool hse) <| zD tab_ok rfl rfl <| zD tab_ok rfl rfl <| zD tab_ok rfl rfl <| zD tab_ok rfl rfl <| zD tab_ok rfl rfl <| zD tab_ok rfl rfl <| zD tab_ok rfl rfl <| zD tab_ok rfl rfl <| zD tab_ok rfl rfl <| zD tab_ok rfl rfl <| DSq.nil _) mix_ok rfl ?_
      repeat' (first|refine zS ?_|refine zR ?_|refine zE tab_ok rfl rfl ?_|refine zN ?_|(refine zG rfl rfl (fun _ => ?_) fun _ => ?_)<;>refine zE tab_ok rfl rfl ?_|(refine zC rfl (fun _ => ?_) fun _ => ?_)<;>try (rename_i h; cases h; done)|refine zB ?_|refine zK ?_|refine zZ ⟨_, rfl, ?_⟩)
      exact ⟨k + 1, ⟨by omega, next fun h => absurd h hs⟩, by omega, Sub.app (l := [_, _, _, _, _, _, _, _]) (H := []) ⟨rfl, rfl, rfl, rfl, rfl, rfl, rfl, congrArg some (wrapz (by omega) (by omega) (by omega)), trivial⟩ (fun κ v h => nomatch h)⟩
  rename_i h2
  have h2 : decide (IntKind.i64.wrap ((k : Int) + 1) < ((l.map stpT).length : Int)) = false := h2
  rw [hw1] at h2
  have hge : l.length ≤ k + 1 := by simp only [List.length_map, decide_eq_false_iff_not] at h2; omega
  obtain ⟨m0, hm0, hcl0, hgd0⟩ := hbad fun j a b ha hb hs => hinv j a b (by have := (List.getElem?_eq_some_iff.1 hb).1; omega) ha hb hs
  refine Tr.exit ?_
  clear hF hw1 hinv hbad
  refine zS ?_
  refine zR ?_
  refine zE tab_ok rfl rfl ?_
  refine zE tab_ok rfl rfl ?_
  have hml : (l.map stpT).length = l.length := List.length_map ..
  rw [hml]
  refine Sq.shift rfl 1#64 l.length rfl rfl (by omega) ?_
  have hall : (if true = true then 1#64 <<< l.length else 1#64 >>> l.length) = BitVec.ofNat 64 (2 ^ l.length) := by
    rw [if_pos rfl]
    apply BitVec.eq_of_toNat_eq
    rw [BitVec.toNat_shiftLeft, BitVec.toNat_ofNat, BitVec.toNat_ofNat, Nat.shiftLeft_eq]
    simp
  rw [hall]
  refine zE tab_ok rfl rfl ?_
  refine zN ?_
  repeat' (first|refine zS ?_|refine zR ?_|refine zE tab_ok rfl rfl ?_|refine zN ?_|(refine zG rfl rfl (fun _ => ?_) fun _ => ?_)<;>refine zE tab_ok rfl rfl ?_|(refine zC rfl (fun _ => ?_) fun _ => ?_)<;>try (rename_i h; cases h; done)|refine zB ?_|refine zK ?_|refine zZ ⟨_, rfl, ?_⟩)
  refine Tr.loopS (fun m : Nat => [(.s 2, .ptr (.l 2) 0), (.l 2, .blk 29 [.tr (.ls (c.map svcT))]), (.s 3, .ptr (.l 3) 0), (.l 3, .blk 41 [.tr (.ls (f.map intT)), .tr (.ls (t.map intT)), .tr (.ls (l.map stpT)), .tr (.ls (e.map edT))]), (.s 8, .ptr (.l 8) 0), (.l 8, .blk 69 [int l.length, .tr (.ls (e.map edT))]), (.s 10, u64 (BitVec.ofNat 64 (2 ^ l.length))), (.s 11, u64 (BitVec.ofNat 64 m))]) (fun m => 2 ^ l.length - m) (fun m => m ≤ m0)
    0 (Nat.zero_le _) (Sub.app (l := [_, _, _, _, _, _, _, _]) (H := []) ⟨rfl, rfl, rfl, rfl, rfl, rfl, rfl, rfl, trivial⟩ (fun κ v h => nomatch h)) ?_
  rintro m hm
  have hp20 : (2 : Nat) ^ 20 = 1048576 := rfl
  rw [hp20] at hpow
  have t1 := ofNat_toNat (m := m) (by omega)
  have t2 := ofNat_toNat (m := 2 ^ l.length) (by omega)
  have hmp : m < 2 ^ l.length := by omega
  have t0 : m < 18446744073709551615 := by have : (2 : Nat) ^ 20 = 1048576 := rfl; omega
  generalize hgm : 2 ^ l.length = M at *
  repeat' (first|refine zS ?_|refine zR ?_|refine zE tab_ok rfl rfl ?_|refine zN ?_|(refine zG rfl rfl (fun _ => ?_) fun _ => ?_)<;>refine zE tab_ok rfl rfl ?_|(refine zC rfl (fun _ => ?_) fun _ => ?_)<;>try (rename_i h; cases h; done)|refine zB ?_|refine zK ?_|refine zZ ⟨_, rfl, ?_⟩)
  · rename_i h2
    have h2 : decide (((BitVec.ofNat 64 m).toNat : Int) < ((BitVec.ofNat 64 M).toNat : Int)) = true := h2
    rw [t1, t2, decide_eq_true_eq] at h2
    have hC := hCl (BitVec.ofNat 64 m)
    have hFm := hFl (BitVec.ofNat 64 m)
    have hGm := hGd (BitVec.ofNat 64 m)
    have hwr : IntKind.u64.wrap (((BitVec.ofNat 64 m).toNat : Int) + 1) = ((BitVec.ofNat 64 (m + 1)).toNat : Int) := by
      rw [t1, ofNat_toNat (by omega)]
      have := wrap_bv (BitVec.ofNat 64 (m + 1))
      rw [ofNat_toNat (by omega)] at this
      rw [← this]; rfl
    have hnx : (AV.tr (.sc (.int .u64 (IntKind.u64.wrap (((BitVec.ofNat 64 m).toNat : Int) + 1))))) = u64 (BitVec.ofNat 64 (m + 1)) := by rw [hwr]
    have hstep : m ≠ m0 → m + 1 ≤ m0 := fun h => by omega
    have hc0 : m = m0 → closedB e (BitVec.ofNat 64 m) = true := fun h => by rw [h]; exact hcl0
    have hg0 : m = m0 → goodB c ((fleetL c f t (chs (BitVec.ofNat 64 m) l l.length)).map toPl) = false := fun h => by rw [h]; exact hgd0
    generalize BitVec.ofNat 64 m = g at *
    cases hcb : closedB e g
    · have hnm : m ≠ m0 := fun h => by rw [hc0 h] at hcb; cases hcb
      rw [hcb] at hC
      refine Tr.drawn ( zD tab_ok rfl rfl <| zD tab_ok rfl rfl <| DSq.call rfl (fun _ => rfl) (hC) <| zD tab_ok rfl rfl <| zD tab_ok rfl rfl <| zD tab_ok rfl rfl <| zD tab_ok rfl rfl <| zD tab_ok rfl rfl <| zD tab_ok rfl rfl <| zD tab_ok rfl rfl <| zD tab_ok rfl rfl <| zD tab_ok rfl rfl <| DSq.nil _) mix_ok rfl ?_
      repeat' (first|refine zS ?_|refine zR ?_|refine zE tab_ok rfl rfl ?_|refine zN ?_|(refine zG rfl rfl (fun _ => ?_) fun _ => ?_)<;>refine zE tab_ok rfl rfl ?_|(refine zC rfl (fun _ => ?_) fun _ => ?_)<;>try (rename_i h; cases h; done)|refine zB ?_|refine zK ?_|refine zZ ⟨_, rfl, ?_⟩)
      exact ⟨m + 1, hstep hnm, by omega, Sub.app (l := [_, _, _, _, _, _, _, _]) (H := []) ⟨rfl, rfl, rfl, rfl, rfl, rfl, rfl, congrArg some hnx, trivial⟩ (fun κ v h => nomatch h)⟩
    · rw [hcb] at hC
      cases hgb : goodB c ((fleetL c f t (chs g l l.length)).map toPl)
      · rw [hgb] at hGm
        generalize (fleetL c f t (chs g l l.length)).map pT' = FL at *
        refine Tr.drawn ( zD tab_ok rfl rfl <| zD tab_ok rfl rfl <| DSq.call rfl (fun _ => rfl) (hC) <| zD tab_ok rfl rfl <| zD tab_ok rfl rfl <| zD tab_ok rfl rfl <| zD tab_ok rfl rfl <| zD tab_ok rfl rfl <| DSq.call rfl (fun _ => rfl) (hFm) <| DSq.call rfl (fun _ => rfl) (hGm) <| zD tab_ok rfl rfl <| zD tab_ok rfl rfl <| DSq.nil _) mix_ok rfl ?_
        repeat' (first|refine zS ?_|refine zR ?_|refine zE tab_ok rfl rfl ?_|refine zN ?_|(refine zG rfl rfl (fun _ => ?_) fun _ => ?_)<;>refine zE tab_ok rfl rfl ?_|(refine zC rfl (fun _ => ?_) fun _ => ?_)<;>try (rename_i h; cases h; done)|refine zB ?_|refine zK ?_|refine zZ ⟨_, rfl, ?_⟩)
        rfl
      · have hnm : m ≠ m0 := fun h => by rw [hg0 h] at hgb; cases hgb
        rw [hgb] at hGm
        generalize (fleetL c f t (chs g l l.length)).map pT' = FL at *
        refine Tr.drawn ( zD tab_ok rfl rfl <| zD tab_ok rfl rfl <| DSq.call rfl (fun _ => rfl) (hC) <| zD tab_ok rfl rfl <| zD tab_ok rfl rfl <| zD tab_ok rfl rfl <| zD tab_ok rfl rfl <| zD tab_ok rfl rfl <| DSq.call rfl (fun _ => rfl) (hFm) <| DSq.call rfl (fun _ => rfl) (hGm) <| zD tab_ok rfl rfl <| zD tab_ok rfl rfl <| DSq.nil _) mix_ok rfl ?_
        repeat' (first|refine zS ?_|refine zR ?_|refine zE tab_ok rfl rfl ?_|refine zN ?_|(refine zG rfl rfl (fun _ => ?_) fun _ => ?_)<;>refine zE tab_ok rfl rfl ?_|(refine zC rfl (fun _ => ?_) fun _ => ?_)<;>try (rename_i h; cases h; done)|refine zB ?_|refine zK ?_|refine zZ ⟨_, rfl, ?_⟩)
        exact ⟨m + 1, hstep hnm, by omega, Sub.app (l := [_, _, _, _, _, _, _, _]) (H := []) ⟨rfl, rfl, rfl, rfl, rfl, rfl, rfl, congrArg some hnx, trivial⟩ (fun κ v h => nomatch h)⟩
  · exfalso
    rename_i h2
    have h2 : decide (((BitVec.ofNat 64 m).toNat : Int) < ((BitVec.ofNat 64 M).toNat : Int)) = false := h2
    rw [t1, t2, decide_eq_false_iff_not] at h2
    omega
end Go.Lg.Tryz

set_option linter.unusedVariables false
set_option linter.unusedSimpArgs false
namespace Go.Lg.Tryz
open Go Go.Proofs Go.RowKit Go.Lib Go.Lg.Sem
theorem valid_ex {n : Nat} {e : List (Int × Int)} (h : ¬ ∃ p, p ∈ e ∧ ¬ validI n p) : ∃ e' : List (Nat × Nat), e = e'.map edZ ∧ ∀ p, p ∈ e' → p.1 < n ∧ p.2 < n := by
  have hv : ∀ p, p ∈ e → validI n p := fun p hp => Classical.byContradiction fun hn => h ⟨p, hp, hn⟩
  refine ⟨e.map fun p => (p.1.toNat, p.2.toNat), ?_, ?_⟩
  · rw [List.map_map]
    conv => lhs; rw [← List.map_id e]
    refine List.map_congr_left fun p hp => ?_
    obtain ⟨⟨h1, _⟩, h2, _⟩ := hv p hp
    show p = (((p.1.toNat : Nat) : Int), ((p.2.toNat : Nat) : Int))
    obtain ⟨x, y⟩ := p
    rw [Int.toNat_of_nonneg h1, Int.toNat_of_nonneg h2]
  · intro p hp
    obtain ⟨a, ha, rfl⟩ := List.mem_map.1 hp
    obtain ⟨⟨h1, h2⟩, h3, h4⟩ := hv a ha
    simp only
    omega
set_option maxRecDepth 8192 in
set_option maxHeartbeats 800000 in
theorem PlanChecks_ok (c : Ctl) (f t : List Int) (l e : List (Int × Int)) (hl : l.length * 16 ≤ 140737488355328) : Fn Tryz.prog Gw 5 [.tr (ctlT c), .tr (plI f t (l.map stI) (e.map stI))] [] (· = bool true) := by
  obtain ⟨cyc, hc⟩ := cyc_ex c
  have hA := planAnchor_ok
  have hM := catRight_ok c hc
  have hPl := plainI_ok f t l e hl
  refine Fn.of tab_ok Tryz.func5 rfl (by decide) (by simp [Tryz.f5]) rfl (fun κ v h => by cases h) Gw.below ?_
  repeat' (first|refine zS ?_|refine zR ?_|refine zE tab_ok rfl rfl ?_|refine zN ?_|(refine zG rfl rfl (fun _ => ?_) fun _ => ?_)<;>refine zE tab_ok rfl rfl ?_|(refine zC rfl (fun _ => ?_) fun _ => ?_)<;>try (rename_i h; cases h; done)|refine zB ?_|refine zK ?_|refine zZ ⟨_, rfl, ?_⟩)
  refine Sq.callv rfl (hA) ?_
  repeat' (first|refine zS ?_|refine zR ?_|refine zE tab_ok rfl rfl ?_|refine zN ?_|(refine zG rfl rfl (fun _ => ?_) fun _ => ?_)<;>refine zE tab_ok rfl rfl ?_|(refine zC rfl (fun _ => ?_) fun _ => ?_)<;>try (rename_i h; cases h; done)|refine zB ?_|refine zK ?_|refine zZ ⟨_, rfl, ?_⟩)
  refine zL rfl hM ?_
  rintro _ ⟨q, rfl, hq⟩
  repeat' (first|refine zS ?_|refine zR ?_|refine zE tab_ok rfl rfl ?_|refine zN ?_|(refine zG rfl rfl (fun _ => ?_) fun _ => ?_)<;>refine zE tab_ok rfl rfl ?_|(refine zC rfl (fun _ => ?_) fun _ => ?_)<;>try (rename_i h; cases h; done)|refine zB ?_|refine zK ?_|refine zZ ⟨_, rfl, ?_⟩)
  refine Sq.callv rfl (hPl) ?_
  cases hs : smallC c && ((checkV c cyc).2.2 == 0)
  · repeat' (first|refine zS ?_|refine zR ?_|refine zE tab_ok rfl rfl ?_|refine zN ?_|(refine zG rfl rfl (fun _ => ?_) fun _ => ?_)<;>refine zE tab_ok rfl rfl ?_|(refine zC rfl (fun _ => ?_) fun _ => ?_)<;>try (rename_i h; cases h; done)|refine zB ?_|refine zK ?_|refine zZ ⟨_, rfl, ?_⟩)
    rfl
  have e := hq hs
  subst e
  rw [Bool.and_eq_true, beq_iff_eq] at hs
  obtain ⟨hs, hv⟩ := hs
  obtain ⟨hc1, hc2, hcy, _⟩ := right_of hv
  have hlv := levels_of hv
  have hok := ctl_ok hs
  cases hpb : plainI f t l e
  · repeat' (first|refine zS ?_|refine zR ?_|refine zE tab_ok rfl rfl ?_|refine zN ?_|(refine zG rfl rfl (fun _ => ?_) fun _ => ?_)<;>refine zE tab_ok rfl rfl ?_|(refine zC rfl (fun _ => ?_) fun _ => ?_)<;>try (rename_i h; cases h; done)|refine zB ?_|refine zK ?_|refine zZ ⟨_, rfl, ?_⟩)
    rfl
  unfold plainI at hpb
  simp only [Bool.and_eq_true, decide_eq_true_eq] at hpb
  obtain ⟨g1, g2, g3, g4⟩ := hpb
  have hE := refEnds_ok hok (by omega) hlv f t
  repeat' (first|refine zS ?_|refine zR ?_|refine zE tab_ok rfl rfl ?_|refine zN ?_|(refine zG rfl rfl (fun _ => ?_) fun _ => ?_)<;>refine zE tab_ok rfl rfl ?_|(refine zC rfl (fun _ => ?_) fun _ => ?_)<;>try (rename_i h; cases h; done)|refine zB ?_|refine zK ?_|refine zZ ⟨_, rfl, ?_⟩)
  by_cases hez : endsV q f t ≠ 0
  · have h1 := checkE_ok hok hc2 hlv f t (l.map stI) (e.map stI) hez
    have h2 := refCheckE_ok hok hc2 hlv f t (l.map stI) (e.map stI) hez
    generalize endsV q f t = z at *
    refine Sq.callv rfl (hE) ?_
    repeat' (first|refine zS ?_|refine zR ?_|refine zE tab_ok rfl rfl ?_|refine zN ?_|(refine zG rfl rfl (fun _ => ?_) fun _ => ?_)<;>refine zE tab_ok rfl rfl ?_|(refine zC rfl (fun _ => ?_) fun _ => ?_)<;>try (rename_i h; cases h; done)|refine zB ?_|refine zK ?_|refine zZ ⟨_, rfl, ?_⟩)
    · exfalso
      rename_i h
      have h : (z == 0) = true := h
      exact hez (beq_iff_eq.1 h)
    · refine Tr.drawn ( zD tab_ok rfl rfl <| zD tab_ok rfl rfl <| DSq.call rfl (fun _ => rfl) (h1) <| zD tab_ok rfl rfl <| zD tab_ok rfl rfl <| DSq.call rfl (fun _ => rfl) (h2) <| DSq.evr tab_ok rfl (congrArg bool (beq_self_eq_true z)) <| zD tab_ok rfl rfl <| DSq.nil _) mix_ok rfl ?_
      repeat' (first|refine zS ?_|refine zR ?_|refine zE tab_ok rfl rfl ?_|refine zN ?_|(refine zG rfl rfl (fun _ => ?_) fun _ => ?_)<;>refine zE tab_ok rfl rfl ?_|(refine zC rfl (fun _ => ?_) fun _ => ?_)<;>try (rename_i h; cases h; done)|refine zB ?_|refine zK ?_|refine zZ ⟨_, rfl, ?_⟩)
      rfl
  have hez : endsV q f t = 0 := Classical.not_not.1 hez
  rw [hez] at hE
  have E := ends0 hez
  have hfl := (rightV_at E.rf).1
  have hS := refSteps_ok hlv E.rf E.rt (by omega) E.rise
  refine Sq.callv rfl (hE) ?_
  repeat' (first|refine zS ?_|refine zR ?_|refine zE tab_ok rfl rfl ?_|refine zN ?_|(refine zG rfl rfl (fun _ => ?_) fun _ => ?_)<;>refine zE tab_ok rfl rfl ?_|(refine zC rfl (fun _ => ?_) fun _ => ?_)<;>try (rename_i h; cases h; done)|refine zB ?_|refine zK ?_|refine zZ ⟨_, rfl, ?_⟩)
  refine Sq.callv rfl (hS) ?_
  repeat' (first|refine zS ?_|refine zR ?_|refine zE tab_ok rfl rfl ?_|refine zN ?_|(refine zG rfl rfl (fun _ => ?_) fun _ => ?_)<;>refine zE tab_ok rfl rfl ?_|(refine zC rfl (fun _ => ?_) fun _ => ?_)<;>try (rename_i h; cases h; done)|refine zB ?_|refine zK ?_|refine zZ ⟨_, rfl, ?_⟩)
  · rfl
  rename_i h9
  have h9 : decide ((((stepsV q f t).map stpT).length : Int) > 9) = false := h9
  rw [List.length_map] at h9
  have h9 := of_decide_eq_false h9
  by_cases hne : l ≠ (stepsV q f t).map stZ
  · have h1 := checkL_ok hok hc2 hlv f t l e hez (by omega) (by omega) hne (by omega)
    have h2 := refCheckL_ok hok hc2 hlv f t l (e.map stI) hez (by omega) hne
    refine Tr.drawn ( zD tab_ok rfl rfl <| zD tab_ok rfl rfl <| DSq.call rfl (fun _ => rfl) (h1) <| zD tab_ok rfl rfl <| zD tab_ok rfl rfl <| DSq.call rfl (fun _ => rfl) (h2) <| zD tab_ok rfl rfl <| zD tab_ok rfl rfl <| DSq.nil _) mix_ok rfl ?_
    repeat' (first|refine zS ?_|refine zR ?_|refine zE tab_ok rfl rfl ?_|refine zN ?_|(refine zG rfl rfl (fun _ => ?_) fun _ => ?_)<;>refine zE tab_ok rfl rfl ?_|(refine zC rfl (fun _ => ?_) fun _ => ?_)<;>try (rename_i h; cases h; done)|refine zB ?_|refine zK ?_|refine zZ ⟨_, rfl, ?_⟩)
    rfl
  have hne : l = (stepsV q f t).map stZ := Classical.not_not.1 hne
  have hlm : l.map stI = (stepsV q f t).map stpT := by rw [hne, List.map_map]; rfl
  rw [hlm]
  by_cases hb : ∃ p, p ∈ e ∧ ¬ validI (stepsV q f t).length p
  · have h1 := checkB_ok hok hc2 hlv f t e hez (by omega) hb
    have h2 := refCheckB_ok hok hc2 hlv hez (by omega) (e.map stI) (.inl ⟨e, rfl, by omega, hb⟩)
    refine Tr.drawn ( zD tab_ok rfl rfl <| zD tab_ok rfl rfl <| DSq.call rfl (fun _ => rfl) (h1) <| zD tab_ok rfl rfl <| zD tab_ok rfl rfl <| DSq.call rfl (fun _ => rfl) (h2) <| zD tab_ok rfl rfl <| zD tab_ok rfl rfl <| DSq.nil _) mix_ok rfl ?_
    repeat' (first|refine zS ?_|refine zR ?_|refine zE tab_ok rfl rfl ?_|refine zN ?_|(refine zG rfl rfl (fun _ => ?_) fun _ => ?_)<;>refine zE tab_ok rfl rfl ?_|(refine zC rfl (fun _ => ?_) fun _ => ?_)<;>try (rename_i h; cases h; done)|refine zB ?_|refine zK ?_|refine zZ ⟨_, rfl, ?_⟩)
    rfl
  obtain ⟨b, rfl, hp⟩ := valid_ex hb
  rw [List.length_map] at g4
  have hem : (b.map edZ).map stI = b.map edT := by rw [List.map_map]; rfl
  rw [hem]
  have z0 : ∀ y r, chkZ q f t (stepsV q f t) y r = if y then 45 else if r then 0 else 45 := fun y r => by unfold chkZ; rw [if_pos hez, if_pos rfl]
  rcases Classical.em (CycP (stepsV q f t).length b) with hcy | hcy
  · obtain ⟨rb, hrb⟩ : ∃ rb : Bool, rb = true ↔ RchP q f t (stepsV q f t) b := by
      rcases Classical.em (RchP q f t (stepsV q f t) b) with h | h
      · exact ⟨true, fun _ => h, fun _ => rfl⟩
      · exact ⟨false, fun h2 => absurd h2 (by simp), fun h2 => absurd h2 h⟩
    have h1 := planCheck_ok hok hc2 hlv f t (stepsV q f t) b (by omega) (by omega) hp true ⟨fun _ => hcy, fun _ => rfl⟩ rb hrb (by omega) (by omega)
    rw [z0, if_pos rfl] at h1
    have h2 := refCheckB_ok hok hc2 hlv hez (by omega) (b.map edT) (.inr ⟨b, rfl, by omega, hp, .inl hcy⟩)
    refine Tr.drawn ( zD tab_ok rfl rfl <| zD tab_ok rfl rfl <| DSq.call rfl (fun _ => rfl) (h1) <| zD tab_ok rfl rfl <| zD tab_ok rfl rfl <| DSq.call rfl (fun _ => rfl) (h2) <| zD tab_ok rfl rfl <| zD tab_ok rfl rfl <| DSq.nil _) mix_ok rfl ?_
    repeat' (first|refine zS ?_|refine zR ?_|refine zE tab_ok rfl rfl ?_|refine zN ?_|(refine zG rfl rfl (fun _ => ?_) fun _ => ?_)<;>refine zE tab_ok rfl rfl ?_|(refine zC rfl (fun _ => ?_) fun _ => ?_)<;>try (rename_i h; cases h; done)|refine zB ?_|refine zK ?_|refine zZ ⟨_, rfl, ?_⟩)
    rfl
  have hcf : false = true ↔ CycP (stepsV q f t).length b := ⟨fun h => absurd h (by simp), fun h => absurd h hcy⟩
  rcases Classical.em (RchP q f t (stepsV q f t) b) with hr | hr
  · have h1 := planCheck_ok hok hc2 hlv f t (stepsV q f t) b (by omega) (by omega) hp false hcf true ⟨fun _ => hr, fun _ => rfl⟩ (by omega) (by omega)
    rw [z0, if_neg (by simp), if_pos rfl] at h1
    have h2 := refPCheck_ok hok hc2 hlv hez b (by omega) (by omega) hp hcf hr
    refine Tr.drawn ( zD tab_ok rfl rfl <| zD tab_ok rfl rfl <| DSq.call rfl (fun _ => rfl) (h1) <| zD tab_ok rfl rfl <| zD tab_ok rfl rfl <| DSq.call rfl (fun _ => rfl) (h2) <| zD tab_ok rfl rfl <| zD tab_ok rfl rfl <| DSq.nil _) mix_ok rfl ?_
    repeat' (first|refine zS ?_|refine zR ?_|refine zE tab_ok rfl rfl ?_|refine zN ?_|(refine zG rfl rfl (fun _ => ?_) fun _ => ?_)<;>refine zE tab_ok rfl rfl ?_|(refine zC rfl (fun _ => ?_) fun _ => ?_)<;>try (rename_i h; cases h; done)|refine zB ?_|refine zK ?_|refine zZ ⟨_, rfl, ?_⟩)
    rfl
  · have h1 := planCheck_ok hok hc2 hlv f t (stepsV q f t) b (by omega) (by omega) hp false hcf false ⟨fun h => absurd h (by simp), fun h => absurd h hr⟩ (by omega) (by omega)
    rw [z0, if_neg (by simp), if_neg (by simp)] at h1
    have h2 := refCheckB_ok hok hc2 hlv hez (by omega) (b.map edT) (.inr ⟨b, rfl, by omega, hp, .inr ⟨hcy, hr⟩⟩)
    refine Tr.drawn ( zD tab_ok rfl rfl <| zD tab_ok rfl rfl <| DSq.call rfl (fun _ => rfl) (h1) <| zD tab_ok rfl rfl <| zD tab_ok rfl rfl <| DSq.call rfl (fun _ => rfl) (h2) <| zD tab_ok rfl rfl <| zD tab_ok rfl rfl <| DSq.nil _) mix_ok rfl ?_
    repeat' (first|refine zS ?_|refine zR ?_|refine zE tab_ok rfl rfl ?_|refine zN ?_|(refine zG rfl rfl (fun _ => ?_) fun _ => ?_)<;>refine zE tab_ok rfl rfl ?_|(refine zC rfl (fun _ => ?_) fun _ => ?_)<;>try (rename_i h; cases h; done)|refine zB ?_|refine zK ?_|refine zZ ⟨_, rfl, ?_⟩)
    rfl
end Go.Lg.Tryz

set_option linter.unusedSimpArgs false
set_option linter.unusedVariables false
namespace Go.Lg.Tryz
open Go Go.Proofs Go.Proofs.YtikjlooifdgbaaaGreatDoor Go.ChangeShapes Go.WideShapes Go.ChangeAt Go.RowKit Go.Joins Go.Lg.Sem
def theLaid : List (String × DataW Unit) := Rows.planMakesRow.laid
theorem own : ownKnob Tryz.prog.godebug = none := by kernel_rfl
theorem laidOut : laidOutB Tryz.prog = true := by kernel_rfl
def firstCells : Array Value := match Go.Pinned.utf8First with
  | .agg l => (l.map fun | .lit (.int k n) => Value.int k n | _ => undef).toArray
  | _ => #[]
noncomputable def laidWorld (os : Os) : World :=
  let w0 := World.doorLaid Tryz.prog 72 os
  { w0 with heap := w0.heap.modify 2 fun
      | .cells _ t frozen => .cells firstCells t frozen
      | o => o }
set_option maxRecDepth 100000 in
theorem laidWorld_met (os : Os) (args : Array Value) : laidMetH Tryz.prog theLaid ((laidWorld os).forCall (fun _ _ => 0) ⟨#[], args, []⟩).memory :=
  laidMetH_of_parts3 (fuel := 8) (laidMet_of_run' 8 (by kernel_rfl) (by kernel_rfl)) (by kernel_rfl) (by kernel_rfl)
set_option maxRecDepth 100000 in
theorem laidWorld_shaped (os : Os) (args : Array Value) : ((laidWorld os).forCall (fun _ _ => 0) ⟨#[], args, []⟩).Shaped Tryz.prog :=
  World.shaped_of_RefB (by kernel_rfl) (by kernel_rfl)
theorem gw_of {W : World} (hs : W.ShapedOpen Tryz.prog) (h : laidMetH Tryz.prog theLaid W) : Gw W := by
  rw [MakeChecks.laidMetH_plain _ _ _ (by kernel_rfl)] at h
  have h2 : laidMet Tryz.prog (("internal/strconv.uint64pow10", Lib.tabData .u64 Lib.pow10Tab) :: theLaid.drop 3) W := h.tail.tail
  have ht := Lib.tabIs_of_head tab_at (t := 278) (e := 48) (n := 20) (by kernel_rfl) Tryz.underlying278 Tryz.underlying48 (by kernel_rfl) (by kernel_rfl) h2
  obtain ⟨m, hm⟩ := cell_of_shapedOpen_int (g := 4) (zero := #[.int .i64 0]) (t := 3) hs (of_decide_eq_true (by kernel_rfl)) (by kernel_rfl) rfl (by kernel_rfl) (by kernel_rfl) Tryz.underlying3
  have hbig : 8 ≤ W.heap.size := by
    have := ht
    unfold Lib.TabIs World.var? at this
    rw [tab_at, Option.bind_some] at this
    cases hb : W.heap[7]? with
    | none => rw [hb] at this; cases this
    | some o => have := (Array.getElem?_eq_some_iff.1 hb).1; omega
  have h3 : laidMet Tryz.prog (("math/bits.deBruijn64tab", Lib.tabData .u8 (Lib.deBruijn64tab.map Int.ofNat)) :: theLaid.drop 2) W := h.tail
  have hd := Lib.tabIs_of_head (g := 0) (t := 186) (e := 5) (n := 64) (by kernel_rfl) (by kernel_rfl) Tryz.underlying186 Tryz.underlying5 (by kernel_rfl) (by kernel_rfl) h3
  exact ⟨⟨m, hm⟩, ht, hbig, fun j hj => by
    have h4 := hd.cell (g := 0) (by kernel_rfl) j (by rw [List.length_map]; exact hj)
    rw [h4]
    congr 2
    simp only [List.getD_eq_getElem?_getD, List.getElem?_map, List.getElem?_eq_getElem hj, Option.map_some, Option.getD_some]; rfl⟩
theorem returns_both {H : Type} {enc : TypeId × Value → H} {a : Assume} {C : Checked} {os : Os} {f : FuncId} {fn : Func} {s : ChangeSpec} {conds : List PathCond} {apart fresh handsOn again : Bool} {X : World → Array Value → Prop}
    (hX : ∀ (w w' : World) (args : Array Value), w.heap = w'.heap → X w args → X w' args)
    (own : ownKnob C.prog.godebug = none) (started : os.Started) (noInit : C.prog.inits.idxOf? f = none) (hfn : C.prog.funcs[f]? = some fn)
    (witness : ∃ (w : World) (tape : Tape) (i : Input), w.os = os ∧ (w.forCall tape i).Shaped C.prog ∧ i.vars = [] ∧ Input.okWide C.prog (w.forCall tape i) .any w.heap.size f i ∧
      ((s.pre enc C.prog fn conds apart (w.forCall tape i).memory i.args ∧ X (w.forCall tape i).memory i.args) ∧ sizedMet enc C.prog fn (OpenSpec.ofChange s) apart (w.forCall tape i).memory i.args) ∧ a.holds C.prog (lone (Frame.enter C.prog f i.args .normal) [] (w.forCall tape i)))
    (contract : ∀ (W : World) (base : Nat) (args : Array Value) (ds gs : List (DataW H)) (before : List MemPlace),
      (∀ (j : Nat) t v, fn.params[j]? = some t → args[j]? = some v → Value.okWide C.prog W .any base t v) →
      DataW.Whole enc C.prog fn.params.toList s.vars apart W args.toList ds gs before →
      (DataW.weightsEach C.prog (fn.params.toList ++ s.plain.varTypes C.prog) (ds ++ gs)).all (· ≤ reachBytes) = true → X W args → W.ShapedOpen C.prog →
      Calls C.prog f args W fun e W' => ∃ v, e = .returned v ∧ s.post enc C.prog fn apart fresh handsOn again W args v W') :
    ReturnsInHanded a C os f .any (fun w args => (s.pre enc C.prog fn conds apart w args ∧ X w args) ∧ sizedMet enc C.prog fn (OpenSpec.ofChange s) apart w args) (s.post enc C.prog fn apart fresh handsOn again) := by
  refine returnsInHanded_of_calls own started noInit witness ?_
  intro w tape i _ hsh _ hok hpre hholds
  obtain ⟨_, _, _, fn', hfn', _, _, _, _, hval⟩ := hok
  obtain rfl := Option.some.inj (hfn'.symm.trans hfn)
  obtain ⟨⟨⟨ds, gs, before, hw, hc⟩, hx⟩, hz⟩ := hpre
  have hw' := DataW.Whole.of_heap (w' := w.forCall tape i) (by rfl) hw
  refine (contract (w.forCall tape i) w.heap.size i.args ds gs before hval hw' (hz.weights hw) (hX _ _ _ (by rfl) hx) hsh).mono fun e W' ⟨v, he, hp⟩ => ?_
  subst he
  exact ChangeSpec.post_blind hp
section
variable {H : Type} {enc : TypeId × Value → H} {W : World}
theorem stays {t : TypeId} (hr : (Tryz.prog).readableRec t = true) (hrow : t < (Tryz.prog).types.size) {W' : World} {v : Value} {d : DataW H} {p : List MemPlace} (h : DataW.Trod enc Tryz.prog W 0 (fun _ => true) true t v d p) (hb : Below W.heap.size W W') (hlt : ∀ x ∈ p, x.block < W.heap.size) :
    DataW.Trod enc Tryz.prog W' 0 (fun b => decide (b < W.heap.size)) true t v d p := hb.trod laidOut hr hrow h hlt
theorem opens_ver : Opens enc Tryz.prog W 58 (fun v : Ver => [.sc (.int .i64 v.a), .sc (.int .i64 v.b), .sc (.int .i64 v.c), .sc (.string v.p)]) :=
  (opens_struct Tryz.underlying58 (by kernel_rfl) (OpensF.cons rfl (k := 1) (by kernel_rfl) (opens_int Tryz.underlying3) (OpensF.cons rfl (k := 1) (by kernel_rfl) (opens_int Tryz.underlying3) (OpensF.cons rfl (k := 1) (by kernel_rfl) (opens_int Tryz.underlying3)
    (OpensF.cons rfl (k := 1) (by kernel_rfl) (opens_string Tryz.underlying9) OpensF.nil))))).map (fun p : Int × Int × Int × ByteArray × Unit => ⟨p.1, p.2.1, p.2.2.1, p.2.2.2.1⟩) (fun p => rfl)
theorem opens_comp : Opens enc Tryz.prog W 99 (fun c : Cmp => [.sc (.int .i64 c.op), .sc (.int .i64 c.v.a), .sc (.int .i64 c.v.b), .sc (.int .i64 c.v.c), .sc (.string c.v.p)]) :=
  (opens_struct Tryz.underlying99 (by kernel_rfl) (OpensF.cons rfl (k := 1) (by kernel_rfl) (opens_int Tryz.underlying3) (OpensF.cons rfl (k := 4) (by kernel_rfl) opens_ver OpensF.nil))).map (fun p : Int × Ver × Unit => ⟨p.1, p.2.1⟩) (fun p => rfl)
noncomputable instance : Inhabited Cmp := ⟨Cmp.zero⟩
theorem opens_comps : Opens enc Tryz.prog W 100 (fun l : List Cmp => [cmpsT l]) :=
  opens_slice Cmp.t (fun c => rfl) Tryz.underlying100 (fun c => by rw [show (Tryz.prog).cellsOf 99 = 5 by kernel_rfl]; rfl) (by rw [show (Tryz.prog).cellsOf 99 = 5 by kernel_rfl]; omega) opens_comp
theorem opens_rng : Opens enc Tryz.prog W 103 (fun r : Rng => [.ls (r.map cmpsT)]) :=
  (opens_struct Tryz.underlying103 (by kernel_rfl) (OpensF.cons rfl (k := 1) (by kernel_rfl) (opens_slice cmpsT (fun l => rfl) Tryz.underlying101 (fun c => by rw [show (Tryz.prog).cellsOf 100 = 1 by kernel_rfl]; rfl) (by rw [show (Tryz.prog).cellsOf 100 = 1 by kernel_rfl]; omega) opens_comps) OpensF.nil)).map
    (fun p : Rng × Unit => p.1) (fun p => rfl)
end
end Go.Lg.Tryz

set_option linter.unusedSimpArgs false
set_option linter.unusedVariables false
namespace Go.Lg.Tryz
open Go Go.Proofs Go.Proofs.YtikjlooifdgbaaaGreatDoor Go.ChangeShapes Go.WideShapes Go.ChangeAt Go.RowKit Go.Joins Go.Lg.Sem
section
variable {H : Type} {enc : TypeId × Value → H} {W : World}
noncomputable instance : Inhabited Nd := ⟨⟨0, []⟩⟩
noncomputable instance : Inhabited Rls := ⟨⟨Cmp.zero.v, 0, []⟩⟩
noncomputable instance : Inhabited Svc := ⟨⟨ByteArray.empty, []⟩⟩
theorem opens_nd : Opens enc Tryz.prog W 105 (fun n : Nd => [.sc (.int .i64 n.s), .ls (n.r.map cmpsT)]) :=
  (opens_struct Tryz.underlying105 (by kernel_rfl) (OpensF.cons rfl (k := 1) (by kernel_rfl) (opens_int Tryz.underlying3) (OpensF.cons rfl (k := 1) (by kernel_rfl) opens_rng OpensF.nil))).map (fun p : Int × Rng × Unit => ⟨p.1, p.2.1⟩) (fun p => rfl)
theorem opens_nds : Opens enc Tryz.prog W 59 (fun l : List Nd => [.ls (l.map ndT)]) :=
  opens_slice ndT (fun c => rfl) Tryz.underlying59 (fun c => by rw [show (Tryz.prog).cellsOf 105 = 2 by kernel_rfl]; rfl) (by rw [show (Tryz.prog).cellsOf 105 = 2 by kernel_rfl]; omega) opens_nd
theorem opens_rls : Opens enc Tryz.prog W 61 (fun r : Rls => [.sc (.int .i64 r.v.a), .sc (.int .i64 r.v.b), .sc (.int .i64 r.v.c), .sc (.string r.v.p), .sc (.int .i64 r.level), .ls (r.needs.map ndT)]) :=
  (opens_struct Tryz.underlying61 (by kernel_rfl) (OpensF.cons rfl (k := 4) (by kernel_rfl) opens_ver (OpensF.cons rfl (k := 1) (by kernel_rfl) (opens_int Tryz.underlying3) (OpensF.cons rfl (k := 1) (by kernel_rfl) opens_nds OpensF.nil)))).map (fun p : Ver × Int × List Nd × Unit => ⟨p.1, p.2.1, p.2.2.1⟩) (fun p => rfl)
theorem opens_rlss : Opens enc Tryz.prog W 62 (fun l : List Rls => [.ls (l.map rlsT)]) :=
  opens_slice rlsT (fun c => rfl) Tryz.underlying62 (fun c => by rw [show (Tryz.prog).cellsOf 61 = 6 by kernel_rfl]; rfl) (by rw [show (Tryz.prog).cellsOf 61 = 6 by kernel_rfl]; omega) opens_rls
theorem opens_svc : Opens enc Tryz.prog W 64 (fun s : Svc => [.sc (.string s.name), .ls (s.rels.map rlsT)]) :=
  (opens_struct Tryz.underlying64 (by kernel_rfl) (OpensF.cons rfl (k := 1) (by kernel_rfl) (opens_string Tryz.underlying9) (OpensF.cons rfl (k := 1) (by kernel_rfl) opens_rlss OpensF.nil))).map (fun p : ByteArray × List Rls × Unit => ⟨p.1, p.2.1⟩) (fun p => rfl)
theorem opens_cat : Opens enc Tryz.prog W 24 (fun c : Ctl => [.ls (c.map svcT)]) :=
  (opens_struct Tryz.underlying24 (by kernel_rfl) (OpensF.cons rfl (k := 1) (by kernel_rfl) (opens_slice svcT (fun c => rfl) Tryz.underlying22 (fun c => by rw [show (Tryz.prog).cellsOf 64 = 2 by kernel_rfl]; rfl) (by rw [show (Tryz.prog).cellsOf 64 = 2 by kernel_rfl]; omega) opens_svc) OpensF.nil)).map (fun p : Ctl × Unit => p.1) (fun p => rfl)
theorem opens_ints : Opens enc Tryz.prog W 25 (fun l : List Int => [.ls (l.map fun v => .sc (.int .i64 v))]) :=
  opens_slice (fun v : Int => T.sc (.int .i64 v)) (fun c => rfl) Tryz.underlying25 (fun c => by rw [show (Tryz.prog).cellsOf 3 = 1 by kernel_rfl]; rfl) (by rw [show (Tryz.prog).cellsOf 3 = 1 by kernel_rfl]; omega) (opens_int Tryz.underlying3)
end
end Go.Lg.Tryz

set_option linter.unusedSimpArgs false
set_option linter.unusedVariables false
namespace Go.Lg.Tryz
open Go Go.Proofs Go.Proofs.YtikjlooifdgbaaaGreatDoor Go.ChangeShapes Go.WideShapes Go.ChangeAt Go.RowKit Go.Joins Go.Lg.Sem
abbrev plP (p : List Int × List Int × List (Int × Int) × List (Int × Int)) : T := plI p.1 p.2.1 (p.2.2.1.map stI) (p.2.2.2.map stI)
section
variable {H : Type} {enc : TypeId × Value → H} {W : World}
set_option maxRecDepth 100000 in
theorem opens_arr2 : Opens enc Tryz.prog W 66 (fun p : Int × Int => [.sc (.int .i64 p.1), .sc (.int .i64 p.2)]) := fun n cs x h => by
  obtain ⟨xs, m, _, _, hl, hlen, hf⟩ := DataW.trod_array Tryz.underlying66 h
  have hl : cs.length = 2 := hl.trans (by kernel_rfl)
  have h0 := hf 0 (by omega)
  have h1 := hf 1 (by omega)
  rw [show (Tryz.prog).cellsOf 3 = 1 by kernel_rfl] at h0 h1
  obtain ⟨c0, c1, rfl⟩ : ∃ c0 c1, cs = [c0, c1] := by
    match cs, hl with
    | [a, b], _ => exact ⟨a, b, rfl⟩
  rw [List.getElem?_eq_getElem (by omega)] at h0 h1
  obtain ⟨z0, e0, _⟩ := DataW.trod_int Tryz.underlying3 h0
  obtain ⟨z1, e1, _⟩ := DataW.trod_int Tryz.underlying3 h1
  simp at e0 e1
  subst e0; subst e1
  exact ⟨(z0, z1), (RepL.one_mk rfl (.sc _ rfl)).app (RepL.one_mk rfl (.sc _ rfl))⟩
theorem opens_edges : Opens enc Tryz.prog W 33 (fun l : List (Int × Int) => [.ls (l.map stI)]) :=
  opens_slice stI (fun c => rfl) Tryz.underlying33 (fun c => by rw [show (Tryz.prog).cellsOf 66 = 2 by kernel_rfl]; rfl) (by rw [show (Tryz.prog).cellsOf 66 = 2 by kernel_rfl]; omega) opens_arr2
theorem opens_stp : Opens enc Tryz.prog W 56 (fun p : Int × Int => [.sc (.int .i64 p.1), .sc (.int .i64 p.2)]) :=
  (opens_struct Tryz.underlying56 (by kernel_rfl) (OpensF.cons rfl (k := 1) (by kernel_rfl) (opens_int Tryz.underlying3) (OpensF.cons rfl (k := 1) (by kernel_rfl) (opens_int Tryz.underlying3) OpensF.nil))).map (fun p : Int × Int × Unit => (p.1, p.2.1)) (fun p => rfl)
theorem opens_stps : Opens enc Tryz.prog W 32 (fun l : List (Int × Int) => [.ls (l.map stI)]) :=
  opens_slice stI (fun c => rfl) Tryz.underlying32 (fun c => by rw [show (Tryz.prog).cellsOf 56 = 2 by kernel_rfl]; rfl) (by rw [show (Tryz.prog).cellsOf 56 = 2 by kernel_rfl]; omega) opens_stp
theorem opens_plan : Opens enc Tryz.prog W 35 (fun p : List Int × List Int × List (Int × Int) × List (Int × Int) => [.ls (p.1.map intT), .ls (p.2.1.map intT), .ls (p.2.2.1.map stI), .ls (p.2.2.2.map stI)]) :=
  (opens_struct Tryz.underlying35 (by kernel_rfl) (OpensF.cons rfl (k := 1) (by kernel_rfl) opens_ints (OpensF.cons rfl (k := 1) (by kernel_rfl) opens_ints (OpensF.cons rfl (k := 1) (by kernel_rfl) opens_stps (OpensF.cons rfl (k := 1) (by kernel_rfl) opens_edges OpensF.nil))))).map (fun p : List Int × List Int × List (Int × Int) × List (Int × Int) × Unit => (p.1, p.2.1, p.2.2.1, p.2.2.2.1)) (fun p => rfl)
theorem mem_weightsEach {P : Program} : ∀ {ts : List TypeId} {ds : List (DataW H)} {i : Nat} {t : TypeId} {d : DataW H} {w : Nat}, ts[i]? = some t → ds[i]? = some d → w ∈ d.weights P t → w ∈ DataW.weightsEach P ts ds
  | [], ds, i, t, d, w, h, _, _ => by simp at h
  | t0 :: ts, [], i, t, d, w, _, h, _ => by simp at h
  | t0 :: ts, d0 :: ds, 0, t, d, w, h1, h2, h3 => by
    simp at h1 h2; subst h1; subst h2
    rw [DataW.weightsEach]
    exact List.mem_append_left _ h3
  | t0 :: ts, d0 :: ds, i + 1, t, d, w, h1, h2, h3 => by
    simp only [List.getElem?_cons_succ] at h1 h2
    rw [DataW.weightsEach]
    exact List.mem_append_right _ (mem_weightsEach h1 h2 h3)
set_option maxRecDepth 100000 in
theorem plan_bound {cs : Array Value} {d : DataW H} {p : List MemPlace} {a : List Int × List Int × List (Int × Int) × List (Int × Int)} {M : Nat → Nat → Prop} (h : DataW.Trod enc Tryz.prog W 0 (fun _ => true) true 35 (.agg cs) d p)
    (hw : ∀ w, w ∈ d.weights Tryz.prog 35 → w ≤ reachBytes) (hr : Rep W M (plP a) (.agg cs)) : a.2.2.1.length * 16 ≤ 140737488355328 := by
  obtain ⟨n, hn⟩ := h
  have hn : DataW.trod enc Tryz.prog W 0 (fun _ => true) true n 35 cs.toList = some (d, p) := hn
  obtain ⟨xs, m, _, e, hl, hlen, hf⟩ := DataW.trod_struct Tryz.underlying35 hn
  have hlen : xs.length = 4 := hlen
  have h2 := hf 2 _ rfl
  have hl : cs.toList.length = 4 := hl.trans (by kernel_rfl)
  obtain ⟨c0, c1, c2, c3, hcs⟩ : ∃ c0 c1 c2 c3, cs.toList = [c0, c1, c2, c3] := by
    generalize cs.toList = L at hl
    match L, hl with
    | [a, b, c, d], _ => exact ⟨a, b, c, d, rfl⟩
  obtain ⟨x0, x1, x2, x3, rfl⟩ : ∃ x0 x1 x2 x3, xs = [x0, x1, x2, x3] := by
    match xs, hlen with
    | [a, b, c, d], _ => exact ⟨a, b, c, d, rfl⟩
  rw [hcs] at h2
  have h2 : DataW.trod enc Tryz.prog W 0 (fun _ => true) true m 32 [c2] = some x2 := h2
  have hrep : Rep W M (.ls (a.2.2.1.map stI)) c2 := by
    cases hr with
    | ag _ _ h1 h3 h4 => exact h4 2 _ _ rfl (by rw [← Array.getElem?_toList, hcs]; rfl)
  obtain ⟨rfl, _⟩ := Prod.mk.inj e
  rcases Go.Deep.open_slice Tryz.underlying32 h2 with ⟨e1, e2⟩ | ⟨ad, len, cap, m', n', D, Pl, e1, _, hle, _, _, e2, _⟩
  · obtain rfl := (List.cons.inj e1).1
    generalize hts : a.2.2.1.map stI = ts at hrep
    have h0 : ts.length = 0 := by cases hrep <;> rfl
    rw [← hts, List.length_map] at h0
    omega
  · obtain rfl := (List.cons.inj e1).1
    generalize hts : a.2.2.1.map stI = ts at hrep
    have h0 : ts.length = len := by cases hrep <;> rfl
    rw [← hts, List.length_map] at h0
    have hm : (len + (m' - len)) * 16 ≤ reachBytes := by
      refine hw _ ?_
      rw [DataW.weights]
      rw [Tryz.underlying35]
      refine mem_weightsEach (i := 2) (t := 32) (d := x2.1) rfl rfl ?_
      rw [e2, DataW.weights, Tryz.underlying32]
      simp only [List.length_map, List.length_range]
      rw [show (Tryz.prog).bytesOf 56 = 16 by kernel_rfl]
      exact List.mem_cons_self ..
    have : reachBytes = 140737488351232 := rfl
    rw [h0]
    omega
end
end Go.Lg.Tryz
