/- Words and laws that the theorem leans on (part 5). -/
import Derived.Test.YtdjdfdfelcnpmaaGreatDoorP91203479
import Derived.Test.YtdjdfdfelcnpmaaGreatDoorPe8c6d24c
import Derived.Test.YtdjdfdfelcnpmaaGreatDoorP99dee1b1
import Derived.Test.YtdjdfdfelcnpmaaGreatDoorPa24660a1
import Derived.Shelf.Spec.TrailingZeros
import Derived.Shelf.Lays7
import Derived.ScopeJumps
import Derived.Lib.TrailingZeros
import Derived.Laws.Cover3
import Derived.Laws.FloatArith
import Derived.Laws.Externs
set_option linter.unusedVariables false
set_option linter.unusedSimpArgs false

set_option linter.unusedVariables false
set_option linter.unusedSimpArgs false
namespace Go.Lg.Sem
open Go
def relsLen (c : Ctl) (i : Nat) : Nat := match c[i]? with
  | some s => s.rels.length
  | none => 0
def firstK (f : Nat → Int) (n : Nat) : Option Nat := (List.range n).find? fun k => f k != 0
theorem firstK_at {f : Nat → Int} {n k : Nat} (hk : k < n) (h : ∀ j, j < k → f j = 0) (hf : f k ≠ 0) : firstK f n = some k := by
  unfold firstK
  rw [List.find?_range_eq_some]
  refine ⟨by simpa using hf, by simpa using hk, fun j hj => by rw [h j hj]; rfl⟩
theorem firstK_none {f : Nat → Int} {n : Nat} (h : ∀ j, j < n → f j = 0) : firstK f n = none := by
  unfold firstK
  rw [List.find?_eq_none]
  intro x hx
  rw [h x (List.mem_range.1 hx)]; simp
def svcE (c : Ctl) (i : Nat) : Int × Int × Int := if svcV c i ≠ 0 then ((i : Int), -1, svcV c i) else match firstK (relV c i) (relsLen c i) with
  | some k => ((i : Int), (k : Int), relV c i k)
  | none => (0, 0, 0)
def checkV (c : Ctl) (cyc : Bool) : Int × Int × Int := if c.length < 1 ∨ c.length > 12 then (0, 0, 36) else match firstK (fun i => (svcE c i).2.2) c.length with
  | some i => svcE c i
  | none => if cyc then (0, 0, 21) else (0, 0, 0)
theorem svcE_svc {c : Ctl} {i : Nat} (h : svcV c i ≠ 0) : svcE c i = ((i : Int), -1, svcV c i) := by unfold svcE; rw [if_pos h]
theorem svcE_rel {c : Ctl} {i k : Nat} (h : svcV c i = 0) (hk : k < relsLen c i) (hj : ∀ j, j < k → relV c i j = 0) (hf : relV c i k ≠ 0) : svcE c i = ((i : Int), (k : Int), relV c i k) := by
  unfold svcE; rw [if_neg (by simp [h]), firstK_at hk hj hf]
theorem svcE_none {c : Ctl} {i : Nat} (h : svcV c i = 0) (hj : ∀ j, j < relsLen c i → relV c i j = 0) : svcE c i = (0, 0, 0) := by
  unfold svcE; rw [if_neg (by simp [h]), firstK_none hj]
theorem check_svc {c : Ctl} {cyc : Bool} {i : Nat} (h0 : ¬ (c.length < 1 ∨ c.length > 12)) (hi : i < c.length) (hj : ∀ j, j < i → (svcE c j).2.2 = 0) (hf : (svcE c i).2.2 ≠ 0) : checkV c cyc = svcE c i := by
  unfold checkV; rw [if_neg h0, firstK_at (f := fun i => (svcE c i).2.2) hi hj hf]
theorem check_none {c : Ctl} {cyc : Bool} (h0 : ¬ (c.length < 1 ∨ c.length > 12)) (hj : ∀ j, j < c.length → (svcE c j).2.2 = 0) : checkV c cyc = if cyc then (0, 0, 21) else (0, 0, 0) := by
  unfold checkV; rw [if_neg h0, firstK_none (f := fun i => (svcE c i).2.2) hj]
end Go.Lg.Sem

set_option linter.unusedVariables false
set_option linter.unusedSimpArgs false
namespace Go.Lg.Tryz
open Go Go.Proofs Go.RowKit Go.Lib Go.Lg.Sem
abbrev tri (x : Int × Int × Int) : AV := .tup [int x.1, int x.2.1, int x.2.2]
theorem refCheck_ok {c : Ctl} (h : Ctl.ok c) (hn : ∀ s, s ∈ c → s.name.size ≤ 1000000000) (cyc : Bool) (hC : c.length ≤ 12 → Fn Tryz.prog Gw 35 [.tr (grT c.length (edges c))] [] (· = bool cyc)) :
    Fn Tryz.prog Gw 13 [.tr (ctlT c)] [] (· = tri (checkV c cyc)) := by
  by_cases h0 : c.length < 1 ∨ c.length > 12
  · have hV : checkV c cyc = (0, 0, 36) := by unfold checkV; rw [if_pos h0]
    rw [hV]
    refine Fn.of tab_ok Tryz.func13 rfl (by decide) (by simp [Tryz.f13]) rfl (fun κ v h => by cases h) Gw.below ?_
    repeat' (first|refine zS ?_|refine zR ?_|refine zE tab_ok rfl rfl ?_|refine zN ?_|(refine zG rfl rfl (fun _ => ?_) fun _ => ?_)<;>refine zE tab_ok rfl rfl ?_|(refine zC rfl (fun _ => ?_) fun _ => ?_)<;>try (rename_i h; cases h; done)|refine zB ?_|refine zK ?_|refine zZ ⟨_, rfl, ?_⟩)
    · rfl
    · rfl
    · rename_i h1 h2; exfalso
      have h1 : decide (((c.map svcT).length : Int) < 1) = false := h1
      have h2 : decide (((c.map svcT).length : Int) > 12) = false := h2
      simp only [List.length_map, decide_eq_false_iff_not] at h1 h2
      omega
  have hG := refGraph_ok h (by omega)
  have hC := hC (by omega)
  refine Fn.of tab_ok Tryz.func13 rfl (by decide) (by simp [Tryz.f13]) rfl (fun κ v h => by cases h) Gw.below ?_
  repeat' (first|refine zS ?_|refine zR ?_|refine zE tab_ok rfl rfl ?_|refine zN ?_|(refine zG rfl rfl (fun _ => ?_) fun _ => ?_)<;>refine zE tab_ok rfl rfl ?_|(refine zC rfl (fun _ => ?_) fun _ => ?_)<;>try (rename_i h; cases h; done)|refine zB ?_|refine zK ?_|refine zZ ⟨_, rfl, ?_⟩)
  · rename_i h1 _; exfalso
    have h1 : decide (((c.map svcT).length : Int) < 1) = true := h1
    simp only [List.length_map, decide_eq_true_eq] at h1
    omega
  · rename_i h1; exfalso
    have h1 : decide (((c.map svcT).length : Int) > 12) = true := h1
    simp only [List.length_map, decide_eq_true_eq] at h1
    omega
  refine Tr.loopS (fun i : Nat => [(.s 1, .ptr (.l 1) 0), (.l 1, .blk 28 [.tr (.ls (c.map svcT))]), (.s 5, int i)]) (fun i => c.length - i)
    (fun i => i ≤ c.length ∧ ∀ j, j < i → (svcE c j).2.2 = 0) 0 ⟨by omega, by intro j hj; omega⟩ (Sub.app (l := [_, _, _]) (H := []) ⟨rfl, rfl, rfl, trivial⟩ (fun κ v h => nomatch h)) ?_
  rintro i ⟨hi, hp⟩
  repeat' (first|refine zS ?_|refine zR ?_|refine zE tab_ok rfl rfl ?_|refine zN ?_|(refine zG rfl rfl (fun _ => ?_) fun _ => ?_)<;>refine zE tab_ok rfl rfl ?_|(refine zC rfl (fun _ => ?_) fun _ => ?_)<;>try (rename_i h; cases h; done)|refine zB ?_|refine zK ?_|refine zZ ⟨_, rfl, ?_⟩)
  · rename_i h2
    have hlt : i < c.length := by simp only [List.length_map, decide_eq_true_eq] at h2; omega
    obtain ⟨s, hs⟩ : ∃ s, c[i]? = some s := ⟨_, List.getElem?_eq_getElem hlt⟩
    have hsm : s ∈ c := List.mem_of_getElem? hs
    have hse : (c.map svcT)[((i : Nat) : Int).toNat]? = some (svcT s) := by simp [hs]
    have hrl : relsLen c i = s.rels.length := by unfold relsLen; rw [hs]
    have hS := refService_ok c i s hs h.1 (hn s hsm)
    have hkz := (h.2 s hsm).1
    by_cases hv : svcV c i = 0
    case neg =>
      have hE := svcE_svc hv
      have hK : checkV c cyc = ((i : Int), -1, svcV c i) := by rw [check_svc h0 hlt hp (by rw [hE]; exact hv), hE]
      rw [hK]
      generalize svcV c i = E at *
      refine Sq.callv rfl (hS) ?_
      repeat' (first|refine zS ?_|refine zR ?_|refine zE tab_ok rfl rfl ?_|refine zN ?_|(refine zG rfl rfl (fun _ => ?_) fun _ => ?_)<;>refine zE tab_ok rfl rfl ?_|(refine zC rfl (fun _ => ?_) fun _ => ?_)<;>try (rename_i h; cases h; done)|refine zB ?_|refine zK ?_|refine zZ ⟨_, rfl, ?_⟩)
      · rfl
      · rename_i h3; exfalso
        have h3 : (E != 0) = false := h3
        simp at h3; exact hv h3
    rw [hv] at hS
    refine Sq.callv rfl (hS) ?_
    repeat' (first|refine zS ?_|refine zR ?_|refine zE tab_ok rfl rfl ?_|refine zN ?_|(refine zG rfl rfl (fun _ => ?_) fun _ => ?_)<;>refine zE tab_ok rfl rfl ?_|(refine zC rfl (fun _ => ?_) fun _ => ?_)<;>try (rename_i h; cases h; done)|refine zB ?_|refine zK ?_|refine zZ ⟨_, rfl, ?_⟩)
    refine Tr.loopS (fun k : Nat => [(.s 1, .ptr (.l 1) 0), (.l 1, .blk 28 [.tr (.ls (c.map svcT))]), (.s 5, int i), (.s 7, int k)]) (fun k => s.rels.length - k)
      (fun k => k ≤ s.rels.length ∧ ∀ j, j < k → relV c i j = 0) 0 ⟨by omega, by intro j hj; omega⟩ (Sub.app (l := [_, _, _, _]) (H := []) ⟨rfl, rfl, rfl, rfl, trivial⟩ (fun κ v h => nomatch h)) ?_
    rintro k ⟨hk, hpk⟩
    repeat' (first|refine zS ?_|refine zR ?_|refine zE tab_ok rfl rfl ?_|refine zN ?_|(refine zG rfl rfl (fun _ => ?_) fun _ => ?_)<;>refine zE tab_ok rfl rfl ?_|(refine zC rfl (fun _ => ?_) fun _ => ?_)<;>try (rename_i h; cases h; done)|refine zB ?_|refine zK ?_|refine zZ ⟨_, rfl, ?_⟩)
    refine zI (x := svcT s) tab_ok rfl (by omega) (hse) rfl ?_
    refine zE tab_ok rfl rfl ?_
    refine zE tab_ok rfl rfl ?_
    refine zE tab_ok rfl rfl ?_
    refine zE tab_ok rfl rfl ?_
    refine zN ?_
    refine zC rfl (fun h3 => ?_) (fun h3 => ?_)
    · have hlt2 : k < s.rels.length := by
        have h3 : decide ((k : Int) < ((s.rels.map rlsT).length : Int)) = true := h3
        simp only [List.length_map, decide_eq_true_eq] at h3; omega
      obtain ⟨r, hr⟩ : ∃ r, s.rels[k]? = some r := ⟨_, List.getElem?_eq_getElem hlt2⟩
      have hR := refRelease_ok h i k s r hs hr
      have hK : relV c i k ≠ 0 → checkV c cyc = ((i : Int), (k : Int), relV c i k) := fun hf => by
        have hE := svcE_rel hv (by rw [hrl]; exact hlt2) hpk hf
        rw [check_svc h0 hlt hp (by rw [hE]; exact hf), hE]
      by_cases hf : relV c i k = 0
      · rw [hf] at hR
        repeat' (first|refine zS ?_|refine zR ?_|refine zE tab_ok rfl rfl ?_|refine zN ?_|(refine zG rfl rfl (fun _ => ?_) fun _ => ?_)<;>refine zE tab_ok rfl rfl ?_|(refine zC rfl (fun _ => ?_) fun _ => ?_)<;>try (rename_i h; cases h; done)|refine zB ?_|refine zK ?_|refine zZ ⟨_, rfl, ?_⟩)
        refine Sq.callv rfl (hR) ?_
        repeat' (first|refine zS ?_|refine zR ?_|refine zE tab_ok rfl rfl ?_|refine zN ?_|(refine zG rfl rfl (fun _ => ?_) fun _ => ?_)<;>refine zE tab_ok rfl rfl ?_|(refine zC rfl (fun _ => ?_) fun _ => ?_)<;>try (rename_i h; cases h; done)|refine zB ?_|refine zK ?_|refine zZ ⟨_, rfl, ?_⟩)
        exact ⟨k + 1, ⟨by omega, fun j hj => by
          rcases Nat.lt_succ_iff_lt_or_eq.1 hj with h | rfl
          · exact hpk j h
          · exact hf⟩, by omega, Sub.app (l := [_, _, _, _]) (H := []) ⟨rfl, rfl, rfl, congrArg some (wrapz (by omega) (by omega) (by omega)), trivial⟩ (fun κ v h => nomatch h)⟩
      · rw [hK hf]
        generalize relV c i k = E at *
        repeat' (first|refine zS ?_|refine zR ?_|refine zE tab_ok rfl rfl ?_|refine zN ?_|(refine zG rfl rfl (fun _ => ?_) fun _ => ?_)<;>refine zE tab_ok rfl rfl ?_|(refine zC rfl (fun _ => ?_) fun _ => ?_)<;>try (rename_i h; cases h; done)|refine zB ?_|refine zK ?_|refine zZ ⟨_, rfl, ?_⟩)
        refine Sq.callv rfl (hR) ?_
        repeat' (first|refine zS ?_|refine zR ?_|refine zE tab_ok rfl rfl ?_|refine zN ?_|(refine zG rfl rfl (fun _ => ?_) fun _ => ?_)<;>refine zE tab_ok rfl rfl ?_|(refine zC rfl (fun _ => ?_) fun _ => ?_)<;>try (rename_i h; cases h; done)|refine zB ?_|refine zK ?_|refine zZ ⟨_, rfl, ?_⟩)
        · rfl
        · rename_i h4; exfalso
          have h4 : (E != 0) = false := h4
          simp at h4; exact hf h4
    · have hge : s.rels.length ≤ k := by
        have h3 : decide ((k : Int) < ((s.rels.map rlsT).length : Int)) = false := h3
        simp only [List.length_map, decide_eq_false_iff_not] at h3; omega
      have hE : svcE c i = (0, 0, 0) := svcE_none hv (fun j hj => hpk j (by omega))
      refine Tr.exit ?_
      repeat' (first|refine zS ?_|refine zR ?_|refine zE tab_ok rfl rfl ?_|refine zN ?_|(refine zG rfl rfl (fun _ => ?_) fun _ => ?_)<;>refine zE tab_ok rfl rfl ?_|(refine zC rfl (fun _ => ?_) fun _ => ?_)<;>try (rename_i h; cases h; done)|refine zB ?_|refine zK ?_|refine zZ ⟨_, rfl, ?_⟩)
      exact ⟨i + 1, ⟨by omega, fun j hj => by
        rcases Nat.lt_succ_iff_lt_or_eq.1 hj with h | rfl
        · exact hp j h
        · rw [hE]⟩, by have := h.1; omega, Sub.app (l := [_, _, _]) (H := []) ⟨rfl, rfl, congrArg some (wrapz (by omega) (by omega) (by omega)), trivial⟩ (fun κ v h => nomatch h)⟩
  · rename_i h2
    have hge : c.length ≤ i := by simp only [List.length_map, decide_eq_false_iff_not] at h2; omega
    rw [check_none h0 (fun j hj => hp j (by omega))]
    refine Tr.exit ?_
    repeat' (first|refine zS ?_|refine zR ?_|refine zE tab_ok rfl rfl ?_|refine zN ?_|(refine zG rfl rfl (fun _ => ?_) fun _ => ?_)<;>refine zE tab_ok rfl rfl ?_|(refine zC rfl (fun _ => ?_) fun _ => ?_)<;>try (rename_i h; cases h; done)|refine zB ?_|refine zK ?_|refine zZ ⟨_, rfl, ?_⟩)
    refine Sq.callv rfl (hG) ?_
    cases cyc
    · refine Sq.callv rfl (hC) ?_
      repeat' (first|refine zS ?_|refine zR ?_|refine zE tab_ok rfl rfl ?_|refine zN ?_|(refine zG rfl rfl (fun _ => ?_) fun _ => ?_)<;>refine zE tab_ok rfl rfl ?_|(refine zC rfl (fun _ => ?_) fun _ => ?_)<;>try (rename_i h; cases h; done)|refine zB ?_|refine zK ?_|refine zZ ⟨_, rfl, ?_⟩)
      rfl
    · refine Sq.callv rfl (hC) ?_
      repeat' (first|refine zS ?_|refine zR ?_|refine zE tab_ok rfl rfl ?_|refine zN ?_|(refine zG rfl rfl (fun _ => ?_) fun _ => ?_)<;>refine zE tab_ok rfl rfl ?_|(refine zC rfl (fun _ => ?_) fun _ => ?_)<;>try (rename_i h; cases h; done)|refine zB ?_|refine zK ?_|refine zZ ⟨_, rfl, ?_⟩)
      rfl
end Go.Lg.Tryz

set_option linter.unusedVariables false
set_option linter.unusedSimpArgs false
namespace Go.Lg.Tryz
open Go Go.Proofs Go.RowKit Go.Lib Go.Lg.Sem
theorem Check_ok {c : Ctl} (h : Ctl.ok c) (hn : ∀ s, s ∈ c → s.name.size ≤ 1000000000) (cyc : Bool) (hC : c.length ≤ 12 → Fn Tryz.prog Gw 19 [.tr (grT c.length (edges c))] [] (fun x => ∃ l, x = .tup [.tr (.ls l), int (if cyc then 21 else 0)])) :
    Fn Tryz.prog Gw 12 [.tr (ctlT c)] [] (· = tri (checkV c cyc)) := by
  by_cases h0 : c.length < 1 ∨ c.length > 12
  · have hV : checkV c cyc = (0, 0, 36) := by unfold checkV; rw [if_pos h0]
    rw [hV]
    refine Fn.of tab_ok Tryz.func12 rfl (by decide) (by simp [Tryz.f12]) rfl (fun κ v h => by cases h) Gw.below ?_
    repeat' (first|refine zS ?_|refine zR ?_|refine zE tab_ok rfl rfl ?_|refine zN ?_|(refine zG rfl rfl (fun _ => ?_) fun _ => ?_)<;>refine zE tab_ok rfl rfl ?_|(refine zC rfl (fun _ => ?_) fun _ => ?_)<;>try (rename_i h; cases h; done)|refine zB ?_|refine zK ?_|refine zZ ⟨_, rfl, ?_⟩)
    · rfl
    · rfl
    · rename_i h1 h2; exfalso
      have h1 : decide (((c.map svcT).length : Int) < 1) = false := h1
      have h2 : decide (((c.map svcT).length : Int) > 12) = false := h2
      simp only [List.length_map, decide_eq_false_iff_not] at h1 h2
      omega
  have hG := Graph_ok h (by omega)
  have hC := hC (by omega)
  refine Fn.of tab_ok Tryz.func12 rfl (by decide) (by simp [Tryz.f12]) rfl (fun κ v h => by cases h) Gw.below ?_
  repeat' (first|refine zS ?_|refine zR ?_|refine zE tab_ok rfl rfl ?_|refine zN ?_|(refine zG rfl rfl (fun _ => ?_) fun _ => ?_)<;>refine zE tab_ok rfl rfl ?_|(refine zC rfl (fun _ => ?_) fun _ => ?_)<;>try (rename_i h; cases h; done)|refine zB ?_|refine zK ?_|refine zZ ⟨_, rfl, ?_⟩)
  · rename_i h1 _; exfalso
    have h1 : decide (((c.map svcT).length : Int) < 1) = true := h1
    simp only [List.length_map, decide_eq_true_eq] at h1
    omega
  · rename_i h1; exfalso
    have h1 : decide (((c.map svcT).length : Int) > 12) = true := h1
    simp only [List.length_map, decide_eq_true_eq] at h1
    omega
  refine Tr.loopS (fun i : Nat => [(.s 1, .ptr (.l 1) 0), (.l 1, .blk 24 [.tr (.ls (c.map svcT))]), (.s 23, .tr (.ls (c.map svcT))), (.s 24, int (c.map svcT).length), (.s 25, int i)]) (fun i => c.length - i)
    (fun i => i ≤ c.length ∧ ∀ j, j < i → (svcE c j).2.2 = 0) 0 ⟨by omega, by intro j hj; omega⟩ (Sub.app (l := [_, _, _, _, _]) (H := []) ⟨rfl, rfl, rfl, rfl, rfl, trivial⟩ (fun κ v h => nomatch h)) ?_
  rintro i ⟨hi, hp⟩
  repeat' (first|refine zS ?_|refine zR ?_|refine zE tab_ok rfl rfl ?_|refine zN ?_|(refine zG rfl rfl (fun _ => ?_) fun _ => ?_)<;>refine zE tab_ok rfl rfl ?_|(refine zC rfl (fun _ => ?_) fun _ => ?_)<;>try (rename_i h; cases h; done)|refine zB ?_|refine zK ?_|refine zZ ⟨_, rfl, ?_⟩)
  · rename_i h2
    have hlt : i < c.length := by simp only [List.length_map, decide_eq_true_eq] at h2; omega
    obtain ⟨s, hs⟩ : ∃ s, c[i]? = some s := ⟨_, List.getElem?_eq_getElem hlt⟩
    have hsm : s ∈ c := List.mem_of_getElem? hs
    have hse : (c.map svcT)[((i : Nat) : Int).toNat]? = some (svcT s) := by simp [hs]
    have hrl : relsLen c i = s.rels.length := by unfold relsLen; rw [hs]
    have hS := service_ok c i s hs h.1 (hn s hsm)
    have hkz := (h.2 s hsm).1
    refine zI (x := svcT s) tab_ok rfl (by omega) (hse) rfl ?_
    repeat' (first|refine zS ?_|refine zR ?_|refine zE tab_ok rfl rfl ?_|refine zN ?_|(refine zG rfl rfl (fun _ => ?_) fun _ => ?_)<;>refine zE tab_ok rfl rfl ?_|(refine zC rfl (fun _ => ?_) fun _ => ?_)<;>try (rename_i h; cases h; done)|refine zB ?_|refine zK ?_|refine zZ ⟨_, rfl, ?_⟩)
    by_cases hv : svcV c i = 0
    case neg =>
      have hE := svcE_svc hv
      have hK : checkV c cyc = ((i : Int), -1, svcV c i) := by rw [check_svc h0 hlt hp (by rw [hE]; exact hv), hE]
      rw [hK]
      generalize svcV c i = E at *
      refine Sq.callv rfl (hS) ?_
      repeat' (first|refine zS ?_|refine zR ?_|refine zE tab_ok rfl rfl ?_|refine zN ?_|(refine zG rfl rfl (fun _ => ?_) fun _ => ?_)<;>refine zE tab_ok rfl rfl ?_|(refine zC rfl (fun _ => ?_) fun _ => ?_)<;>try (rename_i h; cases h; done)|refine zB ?_|refine zK ?_|refine zZ ⟨_, rfl, ?_⟩)
      · rfl
      · rename_i h3; exfalso
        have h3 : (E != 0) = false := h3
        simp at h3; exact hv h3
    rw [hv] at hS
    refine Sq.callv rfl (hS) ?_
    repeat' (first|refine zS ?_|refine zR ?_|refine zE tab_ok rfl rfl ?_|refine zN ?_|(refine zG rfl rfl (fun _ => ?_) fun _ => ?_)<;>refine zE tab_ok rfl rfl ?_|(refine zC rfl (fun _ => ?_) fun _ => ?_)<;>try (rename_i h; cases h; done)|refine zB ?_|refine zK ?_|refine zZ ⟨_, rfl, ?_⟩)
    refine Tr.loopS (fun k : Nat => [(.s 1, .ptr (.l 1) 0), (.l 1, .blk 24 [.tr (.ls (c.map svcT))]), (.s 23, .tr (.ls (c.map svcT))), (.s 24, int (c.map svcT).length), (.s 25, int i), (.s 5, int i), (.s 38, .tr (.ls (s.rels.map rlsT))), (.s 39, int (s.rels.map rlsT).length), (.s 40, int k)]) (fun k => s.rels.length - k)
      (fun k => k ≤ s.rels.length ∧ ∀ j, j < k → relV c i j = 0) 0 ⟨by omega, by intro j hj; omega⟩ (Sub.app (l := [_, _, _, _, _, _, _, _, _]) (H := []) ⟨rfl, rfl, rfl, rfl, rfl, rfl, rfl, rfl, rfl, trivial⟩ (fun κ v h => nomatch h)) ?_
    rintro k ⟨hk, hpk⟩
    refine zS ?_
    refine zR ?_
    refine zE tab_ok rfl rfl ?_
    refine zN ?_
    refine zS ?_
    refine zC rfl (fun h3 => ?_) (fun h3 => ?_)
    · have hlt2 : k < s.rels.length := by
        have h3 : decide ((k : Int) < ((s.rels.map rlsT).length : Int)) = true := h3
        simp only [List.length_map, decide_eq_true_eq] at h3; omega
      obtain ⟨r, hr⟩ : ∃ r, s.rels[k]? = some r := ⟨_, List.getElem?_eq_getElem hlt2⟩
      have hR := release_ok h i k s r hs hr
      have hK : relV c i k ≠ 0 → checkV c cyc = ((i : Int), (k : Int), relV c i k) := fun hf => by
        have hE := svcE_rel hv (by rw [hrl]; exact hlt2) hpk hf
        rw [check_svc h0 hlt hp (by rw [hE]; exact hf), hE]
      by_cases hf : relV c i k = 0
      · rw [hf] at hR
        repeat' (first|refine zS ?_|refine zR ?_|refine zE tab_ok rfl rfl ?_|refine zN ?_|(refine zG rfl rfl (fun _ => ?_) fun _ => ?_)<;>refine zE tab_ok rfl rfl ?_|(refine zC rfl (fun _ => ?_) fun _ => ?_)<;>try (rename_i h; cases h; done)|refine zB ?_|refine zK ?_|refine zZ ⟨_, rfl, ?_⟩)
        refine Sq.callv rfl (hR) ?_
        repeat' (first|refine zS ?_|refine zR ?_|refine zE tab_ok rfl rfl ?_|refine zN ?_|(refine zG rfl rfl (fun _ => ?_) fun _ => ?_)<;>refine zE tab_ok rfl rfl ?_|(refine zC rfl (fun _ => ?_) fun _ => ?_)<;>try (rename_i h; cases h; done)|refine zB ?_|refine zK ?_|refine zZ ⟨_, rfl, ?_⟩)
        exact ⟨k + 1, ⟨by omega, fun j hj => by
          rcases Nat.lt_succ_iff_lt_or_eq.1 hj with h | rfl
          · exact hpk j h
          · exact hf⟩, by omega, Sub.app (l := [_, _, _, _, _, _, _, _, _]) (H := []) ⟨rfl, rfl, rfl, rfl, rfl, rfl, rfl, rfl, congrArg some (wrapz (by omega) (by omega) (by omega)), trivial⟩ (fun κ v h => nomatch h)⟩
      · rw [hK hf]
        generalize relV c i k = E at *
        repeat' (first|refine zS ?_|refine zR ?_|refine zE tab_ok rfl rfl ?_|refine zN ?_|(refine zG rfl rfl (fun _ => ?_) fun _ => ?_)<;>refine zE tab_ok rfl rfl ?_|(refine zC rfl (fun _ => ?_) fun _ => ?_)<;>try (rename_i h; cases h; done)|refine zB ?_|refine zK ?_|refine zZ ⟨_, rfl, ?_⟩)
        refine Sq.callv rfl (hR) ?_
        repeat' (first|refine zS ?_|refine zR ?_|refine zE tab_ok rfl rfl ?_|refine zN ?_|(refine zG rfl rfl (fun _ => ?_) fun _ => ?_)<;>refine zE tab_ok rfl rfl ?_|(refine zC rfl (fun _ => ?_) fun _ => ?_)<;>try (rename_i h; cases h; done)|refine zB ?_|refine zK ?_|refine zZ ⟨_, rfl, ?_⟩)
        · rfl
        · rename_i h4; exfalso
          have h4 : (E != 0) = false := h4
          simp at h4; exact hf h4
    · have hge : s.rels.length ≤ k := by
        have h3 : decide ((k : Int) < ((s.rels.map rlsT).length : Int)) = false := h3
        simp only [List.length_map, decide_eq_false_iff_not] at h3; omega
      have hE : svcE c i = (0, 0, 0) := svcE_none hv (fun j hj => hpk j (by omega))
      refine Tr.exit ?_
      repeat' (first|refine zS ?_|refine zR ?_|refine zE tab_ok rfl rfl ?_|refine zN ?_|(refine zG rfl rfl (fun _ => ?_) fun _ => ?_)<;>refine zE tab_ok rfl rfl ?_|(refine zC rfl (fun _ => ?_) fun _ => ?_)<;>try (rename_i h; cases h; done)|refine zB ?_|refine zK ?_|refine zZ ⟨_, rfl, ?_⟩)
      exact ⟨i + 1, ⟨by omega, fun j hj => by
        rcases Nat.lt_succ_iff_lt_or_eq.1 hj with h | rfl
        · exact hp j h
        · rw [hE]⟩, by have := h.1; omega, Sub.app (l := [_, _, _, _, _]) (H := []) ⟨rfl, rfl, rfl, rfl, congrArg some (wrapz (by omega) (by omega) (by omega)), trivial⟩ (fun κ v h => nomatch h)⟩
  · rename_i h2
    have hge : c.length ≤ i := by simp only [List.length_map, decide_eq_false_iff_not] at h2; omega
    rw [check_none h0 (fun j hj => hp j (by omega))]
    refine Tr.exit ?_
    repeat' (first|refine zS ?_|refine zR ?_|refine zE tab_ok rfl rfl ?_|refine zN ?_|(refine zG rfl rfl (fun _ => ?_) fun _ => ?_)<;>refine zE tab_ok rfl rfl ?_|(refine zC rfl (fun _ => ?_) fun _ => ?_)<;>try (rename_i h; cases h; done)|refine zB ?_|refine zK ?_|refine zZ ⟨_, rfl, ?_⟩)
    refine Sq.callv rfl (hG) ?_
    cases cyc
    · refine zL rfl hC ?_
      rintro _ ⟨l, rfl⟩
      repeat' (first|refine zS ?_|refine zR ?_|refine zE tab_ok rfl rfl ?_|refine zN ?_|(refine zG rfl rfl (fun _ => ?_) fun _ => ?_)<;>refine zE tab_ok rfl rfl ?_|(refine zC rfl (fun _ => ?_) fun _ => ?_)<;>try (rename_i h; cases h; done)|refine zB ?_|refine zK ?_|refine zZ ⟨_, rfl, ?_⟩)
      rfl
    · refine zL rfl hC ?_
      rintro _ ⟨l, rfl⟩
      repeat' (first|refine zS ?_|refine zR ?_|refine zE tab_ok rfl rfl ?_|refine zN ?_|(refine zG rfl rfl (fun _ => ?_) fun _ => ?_)<;>refine zE tab_ok rfl rfl ?_|(refine zC rfl (fun _ => ?_) fun _ => ?_)<;>try (rename_i h; cases h; done)|refine zB ?_|refine zK ?_|refine zZ ⟨_, rfl, ?_⟩)
      rfl
end Go.Lg.Tryz

set_option linter.unusedVariables false
set_option linter.unusedSimpArgs false
namespace Go.Lg.Tryz
open Go Go.Proofs Go.RowKit Go.Lib Go.Lg.Sem
def MadeRt (c : Ctl) (ok : Bool) (x : AV) : Prop := ∃ q : Ctl, x = .tup [ctlArg q, bool ok] ∧ (ok = true → q = c)
theorem small_names {c : Ctl} (h : smallC c = true) : ∀ s, s ∈ c → s.name.size ≤ 1000000000 := fun s hs => by
  have := (Svc.of_small ((smallC_of h).2 s hs)).1
  omega
theorem madeRight_ok (c : Ctl) (cyc : Bool) (hC : c.length ≤ 12 → Fn Tryz.prog Gw 35 [.tr (grT c.length (edges c))] [] (· = bool cyc)) :
    Fn Tryz.prog Gw 14 [.tr (ctlT c)] [] (MadeRt c (smallC c && ((checkV c cyc).2.2 == 0))) := by
  refine Fn.of tab_ok Tryz.func14 rfl (by decide) (by simp [Tryz.f14]) rfl (fun κ v h => by cases h) Gw.below ?_
  repeat' (first|refine zS ?_|refine zR ?_|refine zE tab_ok rfl rfl ?_|refine zN ?_|(refine zG rfl rfl (fun _ => ?_) fun _ => ?_)<;>refine zE tab_ok rfl rfl ?_|(refine zC rfl (fun _ => ?_) fun _ => ?_)<;>try (rename_i h; cases h; done)|refine zB ?_|refine zK ?_|refine zZ ⟨_, rfl, ?_⟩)
  refine zL rfl (madeCat_ok c) ?_
  rintro _ ⟨q, rfl, hq⟩
  cases hs : smallC c
  · repeat' (first|refine zS ?_|refine zR ?_|refine zE tab_ok rfl rfl ?_|refine zN ?_|(refine zG rfl rfl (fun _ => ?_) fun _ => ?_)<;>refine zE tab_ok rfl rfl ?_|(refine zC rfl (fun _ => ?_) fun _ => ?_)<;>try (rename_i h; cases h; done)|refine zB ?_|refine zK ?_|refine zZ ⟨_, rfl, ?_⟩)
    exact ⟨q, rfl, fun h => by cases h⟩
  · have e := hq hs
    subst e
    have hK := refCheck_ok (ctl_ok hs) (small_names hs) cyc hC
    rw [Bool.true_and]
    generalize checkV q cyc = V at *
    repeat' (first|refine zS ?_|refine zR ?_|refine zE tab_ok rfl rfl ?_|refine zN ?_|(refine zG rfl rfl (fun _ => ?_) fun _ => ?_)<;>refine zE tab_ok rfl rfl ?_|(refine zC rfl (fun _ => ?_) fun _ => ?_)<;>try (rename_i h; cases h; done)|refine zB ?_|refine zK ?_|refine zZ ⟨_, rfl, ?_⟩)
    refine Sq.callv rfl (hK) ?_
    repeat' (first|refine zS ?_|refine zR ?_|refine zE tab_ok rfl rfl ?_|refine zN ?_|(refine zG rfl rfl (fun _ => ?_) fun _ => ?_)<;>refine zE tab_ok rfl rfl ?_|(refine zC rfl (fun _ => ?_) fun _ => ?_)<;>try (rename_i h; cases h; done)|refine zB ?_|refine zK ?_|refine zZ ⟨_, rfl, ?_⟩)
    exact ⟨q, rfl, fun _ => rfl⟩
end Go.Lg.Tryz

set_option linter.unusedVariables false
set_option linter.unusedSimpArgs false
namespace Go.Lg.Tryz
open Go Go.Proofs Go.RowKit Go.Lib Go.Lg.Sem
end Go.Lg.Tryz

set_option linter.unusedVariables false
namespace Go.Lg.Tryz
open Go Go.Proofs Go.RowKit Go.Lib Go.Lg.Sem Go.Shelf
def tz_ren : Go.Shelf.Ren := ⟨fun | 29 => 42 | n => n, fun | 3 => 3 | 4 => 4 | 5 => 5 | 22 => 103 | 25 => 137 | 54 => 136 | n => n, fun | 1 => 0 | n => n⟩
theorem tz_lay : Go.Proofs.Lays7.n29 Tryz.prog tz_ren := {
  mixed := by kernel_rfl
  f29 := Tryz.func42.trans (congrArg some (by kernel_rfl))
  t0 := Tryz.underlying0
  a0 := Tryz.isAgg0
  z0 := Tryz.sizeOf0
  v0 := Tryz.zeroValue0
  i0 := by kernel_rfl
  t3 := Tryz.underlying3
  a3 := Tryz.isAgg3
  z3 := Tryz.sizeOf3
  v3 := Tryz.zeroValue3
  i3 := by kernel_rfl
  t4 := Tryz.underlying4
  a4 := Tryz.isAgg4
  z4 := Tryz.sizeOf4
  v4 := Tryz.zeroValue4
  i4 := by kernel_rfl
  t5 := Tryz.underlying5
  a5 := Tryz.isAgg5
  z5 := Tryz.sizeOf5
  v5 := Tryz.zeroValue5
  i5 := by kernel_rfl
  t22 := Tryz.underlying103
  a22 := Tryz.isAgg103
  z22 := Tryz.sizeOf103
  v22 := Tryz.zeroValue103
  i22 := by kernel_rfl
  t25 := Tryz.underlying137
  a25 := Tryz.isAgg137
  z25 := Tryz.sizeOf137
  v25 := Tryz.zeroValue137
  i25 := by kernel_rfl
  t54 := Tryz.underlying136
  a54 := Tryz.isAgg136
  z54 := Tryz.sizeOf136
  g1 := by kernel_rfl }
theorem tz_ok (x : BitVec 64) : Fn Tryz.prog Gw 42 [u64 x] [] (· = int (Lib.ctz 64 x.toNat)) :=
  Fn.of_calls Tryz.func42 rfl rfl rfl rfl fun w hG => (Any7.bits_TrailingZeros64 tz_lay x.toNat x.isLt w (fun _ => hG.db)).mono fun e w' ⟨he, hw⟩ => ⟨he, by subst hw; exact Below.refl _ _⟩
end Go.Lg.Tryz

set_option linter.unusedVariables false
set_option linter.unusedSimpArgs false
namespace Go.Lg
open Go Go.RowKit
section
variable {P : Program} {b : Frame} {a : Act} {k : List Item} {cs : List Frame} {w : World} {Q : Exit → Act → World → Prop} {F : Fence} {n : Nat}
theorem stepR_scope {c : Code} : step P (lone (b.atR a (.code (.scope c) :: k)) cs w) = .next (lone (b.atR a (.code c :: .inScope c :: k)) cs w) :=
  step_lone_go (by simp [stepG, stepG.exec, Frame.atR])
theorem stepR_inScope {c : Code} : step P (lone (b.atR a (.inScope c :: k)) cs w) = .next (lone (b.atR a k) cs w) :=
  step_lone_go (by simp [stepG, stepG.exec, Frame.atR])
theorem wpIn_scope_jumps {c rest : Code} (l : Nat) (J : Act → World → Prop) (μ : Act → World → Nat) (hf : findLabel c l = some rest)
    (first : c.wpIn F n P (Exit.jump l J Q) a w)
    (pass : ∀ a w, J a w → rest.wpIn F n P (Exit.jump l (fun a' w' => J a' w' ∧ μ a' w' < μ a w) Q) a w) : (Code.scope c).wpIn F n P Q a w := by
  intro b k cs hro hb hr
  have hg : gotoIn l (.inScope c :: k) = some (.code rest :: .inScope c :: k) := by simp [gotoIn, hf]
  have key : ∀ j a w, μ a w = j → J a w →
      ∃ e a' w', Q e a' w' ∧ ArrivesIn (Machine.fenced P F) P (lone (b.atR a (.code rest :: .inScope c :: k)) cs w) b k cs e a' w' := by
    intro j
    induction j using Nat.strongRecOn with
    | _ j ih =>
      intro a w hn hJ
      obtain ⟨e, a₁, w₁, hq, harr⟩ := pass a w hJ b (.inScope c :: k) cs hro hb hr
      cases e with
      | normal => exact ⟨.normal, a₁, w₁, hq, StepsIn.trans harr (.one (fenced_calm hb hr rfl) stepR_inScope)⟩
      | exit id => exact ⟨.exit id, a₁, w₁, hq, fun k' hk => harr.1 k' (by simpa [exitTo] using hk), fun hr hk => harr.2 hr (by simpa [exitTo] using hk)⟩
      | goto l' =>
        obtain ⟨rfl, hJ', hlt⟩ := hq
        obtain ⟨e₂, a₂, w₂, hq₂, harr₂⟩ := ih _ (hn ▸ hlt) a₁ w₁ rfl hJ'
        exact ⟨e₂, a₂, w₂, hq₂, .of_steps (harr.1 _ hg) harr₂⟩
      | ret => exact ⟨_, a₁, w₁, hq, harr⟩
      | panic ch => exact ⟨_, a₁, w₁, hq, harr⟩
      | outgrown => exact ⟨_, a₁, w₁, hq, harr⟩
  obtain ⟨e, a₁, w₁, hq, harr⟩ := first b (.inScope c :: k) cs hro hb hr
  have h1 : StepsIn (Machine.fenced P F) P (lone (b.atR a (.code (.scope c) :: k)) cs w) (lone (b.atR a (.code c :: .inScope c :: k)) cs w) := .one (fenced_calm hb hr rfl) stepR_scope
  cases e with
  | normal => exact ⟨.normal, a₁, w₁, hq, .of_steps (e := .normal) h1 (StepsIn.trans harr (.one (fenced_calm hb hr rfl) stepR_inScope))⟩
  | exit id => exact ⟨.exit id, a₁, w₁, hq, .of_steps (e := .exit id) h1 ⟨fun k' hk => harr.1 k' (by simpa [exitTo] using hk), fun hr hk => harr.2 hr (by simpa [exitTo] using hk)⟩⟩
  | goto l' =>
    obtain ⟨rfl, hJ'⟩ := hq
    obtain ⟨e₂, a₂, w₂, hq₂, harr₂⟩ := key _ a₁ w₁ rfl hJ'
    exact ⟨e₂, a₂, w₂, hq₂, .of_steps (h1.trans (harr.1 _ hg)) harr₂⟩
  | ret => exact ⟨_, a₁, w₁, hq, .of_steps (e := .ret) h1 harr⟩
  | panic ch => exact ⟨_, a₁, w₁, hq, .of_steps (e := .panic ch) h1 harr⟩
  | outgrown => exact ⟨_, a₁, w₁, hq, .of_steps (e := .outgrown) h1 harr⟩
end
section
variable {P : Program} {G : Env} {n : Nat} {m : Store}
def jumpQ (l : Nat) (K : Store → Prop) (Q : Exit → Store → Prop) : Exit → Store → Prop
  | .goto l', m => l' = l ∧ K m
  | e, m => Q e m
theorem Tr.scope {ι : Type} {c rest : Code} {Q : Exit → Store → Prop} (l : Nat) (hf : findLabel c l = some rest) (S : ι → Store) (μ : ι → Nat) (inv : ι → Prop)
    (first : Tr P G n c m (jumpQ l (fun m' => ∃ i, inv i ∧ Sub (S i) m') Q))
    (pass : ∀ i, inv i → Tr P G n rest (S i) (jumpQ l (fun m' => ∃ j, inv j ∧ μ j < μ i ∧ Sub (S j) m') Q)) : Tr P G n (.scope c) m Q := by
  intro Γ hΓ a w hr
  classical
  let J : Nat → Act → World → Prop := fun k a w => ∃ i, inv i ∧ k = μ i ∧ RelX P Γ n (S i) a w
  let ν : Act → World → Nat := fun a w => if h : ∃ k, J k a w then (least h).choose else 0
  refine wpIn_scope_jumps l (fun a w => ∃ k, J k a w) ν hf ?_ ?_
  · refine Go.wpIn_mono (first Γ hΓ a w hr) fun e a' w' hq => ?_
    obtain ⟨m', hq, hr'⟩ := hq
    cases e with
    | goto l' =>
      obtain ⟨rfl, i, hi, hs⟩ := hq
      exact ⟨rfl, _, i, hi, rfl, hr'.sub hs⟩
    | _ => exact ⟨m', hq, hr'⟩
  · intro a w hI
    have hμ : ν a w = (least hI).choose := dif_pos hI
    obtain ⟨i, hi, hk, hrm⟩ := (least hI).choose_spec.1
    refine Go.wpIn_mono (pass i hi Γ hΓ a w hrm) fun e a' w' hq => ?_
    obtain ⟨m', hq, hr'⟩ := hq
    cases e with
    | goto l' =>
      obtain ⟨rfl, j, hj, hlt, hs⟩ := hq
      have hex : ∃ k, J k a' w' := ⟨μ j, j, hj, rfl, hr'.sub hs⟩
      refine ⟨rfl, hex, ?_⟩
      have : ν a' w' = (least hex).choose := dif_pos hex
      rw [this, hμ, hk]
      exact Nat.lt_of_le_of_lt ((least hex).choose_spec.2 _ ⟨j, hj, rfl, hr'.sub hs⟩) hlt
    | _ => exact ⟨m', hq, hr'⟩
end
end Go.Lg

set_option linter.unusedVariables false
set_option linter.unusedSimpArgs false
namespace Go.Lg
open Go Go.RowKit
section
variable {P : Program} {G : Env} {n : Nat} {tab : Tab} {m : Store}
theorem putraw_new {Γ : Ctx} {M : Nat → Nat → Prop} {Ow : Loc → Nat → Option Nat} {a : Act} {w w' : World} (hr : Rel P Γ M Ow n m a w) {d : Nat} (hd : d < n) {e : TypeId} {z : Bool} {i : TypeInfo} (hi : P.info? e = some i) {xs : List T} {carr : Array Value} {cap : Nat}
    (hbel : Below w.heap.size w w') (hnew : w'.heap[w.heap.size]? = some (.cells carr e (0, 0))) (hsz : carr.size = cap * i.size) (hcap : xs.length ≤ cap) (hx : ∀ x, x ∈ xs → x.cells.length = i.size)
    (h1 : ∀ (k : Nat) (u : Value), carr[k]? = some u → u.oneCell' = true)
    (hrep : ∀ (k j : Nat) (x y : T), xs[k]? = some x → x.cells[j]? = some y → ∃ v, carr[k * i.size + j]? = some v ∧ Rep w M y v) :
    RelX P Γ n ((.s d, .raw e z xs) :: m) (a.put (some d) (.slice (some ⟨w.heap.size, 0, none⟩) xs.length cap)) w' := by
  have hlt : w.heap.size < w'.heap.size := (Array.getElem?_eq_some_iff.1 hnew).1
  have hr2 := hr.ext (w' := w') (M' := M) hbel (fun _ _ h => h) (fun b o h => .inl h) (fun b o h => Nat.lt_of_lt_of_le (hr.mlt b o h) hbel.size)
  refine ⟨_, _, hr2.putv hd (x := .raw e z xs) (o := some w.heap.size) ⟨i, hi, hx, .inr ⟨w.heap.size, 0, cap, carr, rfl, rfl, fun _ => rfl, hnew, by omega, fun _ => hsz, hcap, fun k hk => absurd (hr.mlt _ _ hk) (Nat.lt_irrefl _), h1, fun k j x y hkx hjy => ?_⟩⟩ (own_refs rfl) (fun b hb => ?_)⟩
  · obtain ⟨v, hv, hrv⟩ := hrep k j x y hkx hjy
    exact ⟨v, by rw [Nat.zero_add]; exact hv, hrv.mono (fun b o h => ⟨h, hbel.cell (p := ⟨b, o, none⟩) (hr.mlt b o h)⟩)⟩
  · obtain rfl := Option.some.inj hb
    exact ⟨fun l i e => absurd (hr.lt l i _ e) (Nat.lt_irrefl _), hlt, .inr hr.fr.size⟩
theorem Rel.forget {Γ : Ctx} {M : Nat → Nat → Prop} {Ow : Loc → Nat → Option Nat} {a : Act} {w : World} (hr : Rel P Γ M Ow n m a w) (s : Nat) : Rel P Γ M (setO Ow (.s s) 0 none) n ((.s s, .unk) :: m) a w :=
  (hr.label (t := s) (v' := .unk) (VRel.unk _)).setOw (l := .s s) (i := 0) rfl none (fun b hb => by cases hb) (fun t v e hv => by
    obtain rfl : s = t := by injection e
    rw [lk_self] at hv; obtain rfl := Option.some.inj hv; exact VRel.unk _) (fun _ _ _ _ _ _ _ e => by cases e)
theorem Rel.forget_free {Γ : Ctx} {M : Nat → Nat → Prop} {Ow : Loc → Nat → Option Nat} {a : Act} {w : World} (hr : Rel P Γ M Ow n m a w) {s b : Nat} (hb : Ow (.s s) 0 = some b) :
    (∀ l i, setO Ow (.s s) 0 none l i ≠ some b) ∧ b < w.heap.size ∧ (Γ.own0 b ∨ Γ.w0.heap.size ≤ b) := by
  refine ⟨fun l i e' => ?_, hr.lt _ _ _ hb, hr.mineL (fun j e => by cases e) hb⟩
  by_cases e2 : l = .s s ∧ i = 0
  · obtain ⟨rfl, rfl⟩ := e2; rw [setO_self] at e'; cases e'
  · rw [setO_ne _ e2] at e'; exact e2 (hr.inj _ _ _ _ _ e' hb)
theorem appendR_run {Γ : Ctx} {M : Nat → Nat → Prop} {Ow : Loc → Nat → Option Nat} {a : Act} {w : World} (hT : TabOk P tab) (hr : Rel P Γ M Ow n m a w) {t e : TypeId} {dt de : TD} (ht : tlk tab t = some dt) (hk : dt.kind = .slice e) (he : tlk tab e = some de) (hpos : 0 < de.size) (hzl : de.zero.length = de.size)
    {s d : Nat} (hd : d < n) {z : Bool} {xs ys : List T} {bv sv : Value} {ty : TypeId} (hb : (∃ o, RawRel P w M e z xs bv o ∧ ∀ b, o = some b → Ow (.s s) 0 = some b)) (hs : Rep w M (.ls ys) sv)
    (hys : ∀ y, y ∈ ys → y.cells.length = de.size) (hbytes : (xs.length + ys.length) * de.bytes ≤ 140737488355328) (hlen : xs.length + ys.length ≤ 140737488355328) :
    ∃ v w', (Builtin.append_ #[t, t] ty #[bv, sv]).run P w = .ok v w' ∧ RelX P Γ n ((.s d, .raw e z (xs ++ ys)) :: (.s s, .unk) :: m) (a.put (some d) v) w' := by
  obtain ⟨i, hi, hisz, hiby, _, ho, zv, hz, hzs⟩ := hT.info he
  have hu : P.underlying t = some (.slice e) := hT.slice ht hk
  obtain ⟨o, ⟨i', hi', hxs, hown⟩, hos⟩ := hb
  obtain rfl : i' = i := by rw [hi] at hi'; exact (Option.some.inj hi').symm
  have hes : ∀ x, x ∈ xs ++ ys → x.cells.length = i'.size := by
    intro x hx
    rcases List.mem_append.1 hx with h | h
    · exact hxs x h
    · rw [hisz]; exact hys x h
  have hr2 := hr.forget s
  by_cases hy0 : ys = []
  · subst hy0
    obtain ⟨ad, cap, rfl, _⟩ := hs.ls_inv
    have hrun : (Builtin.append_ #[t, t] ty #[bv, .slice ad 0 cap]).run P w = .ok bv w := by
      have hf : (Builtin.firstCells i'.size 0 (.slice ad 0 cap)).run P w = .ok #[] w := by
        cases ad with
        | none => exact run_firstCells_none w _ _ _ _
        | some a0 => exact run_firstCells_some (P := P) w i'.size 0 a0 0 cap [] (by simp) (by simp)
      rcases hown with ⟨rfl, ad0, rfl⟩ | ⟨b, off, c, cs, rfl, rfl, hz0, hh, hcs, hzcs, hc, hn, hone, hrep⟩
      · cases ad0 <;> simp [Builtin.append_, run_underlying hu, sizeOf, typeInfo, hi, Builtin.lenOf, hf, storeCells]
      · simp [Builtin.append_, run_underlying hu, sizeOf, typeInfo, hi, Builtin.lenOf, hf, hc, storeCells]
    refine ⟨bv, w, hrun, ?_⟩
    rw [List.append_nil]
    exact ⟨_, _, hr2.putv hd (x := .raw e z xs) (o := o) ⟨i', hi, hxs, hown⟩ (own_refs rfl) (fun b hb => hr.forget_free (hos b hb))⟩
  · obtain ⟨b2, off2, cap2, news, rfl, hnl, hncell, hn1, hnM, hnrep⟩ := hs.flat (es := i'.size) (fun y hy => by rw [hisz]; exact hys y hy) (by rw [hisz]; exact hpos) hy0
    have hm0 : 0 < ys.length := List.length_pos_iff.2 hy0
    have hlaidN : Laid w M i'.size ys news := ⟨hnl, hnrep⟩
    have newblk : ∀ (olds : List Value) (cap' : Nat), Laid w M i'.size xs olds → (∀ u, u ∈ olds → u.oneCell' = true) → xs.length + ys.length ≤ cap' →
        RelX P Γ n ((.s d, .raw e z (xs ++ ys)) :: (.s s, .unk) :: m) (a.put (some d) (.slice (some ⟨w.heap.size, 0, none⟩) (xs.length + ys.length) cap'))
          (w.drew.alloc (.cells (olds.toArray ++ news.toArray ++ Builtin.zeroCells zv.cells (cap' - (xs.length + ys.length))) e)) := by
      intro olds cap' hlaid ho1 hcap'
      have hbel : Below w.heap.size w (w.drew.alloc (.cells (olds.toArray ++ news.toArray ++ Builtin.zeroCells zv.cells (cap' - (xs.length + ys.length))) e)) := (Below.refl _ w).drew.alloc (Nat.le_refl _) _
      have hzsz : zv.cells.size = i'.size := by
        obtain ⟨z1, _⟩ := zsOk_all hzs ho
        rw [hisz, ← hzl, z1]; simp
      have := putraw_new (z := z) (xs := xs ++ ys) (cap := cap') hr2 hd hi hbel (alloc_at w.drew _) (by
        simp only [Array.size_append, List.size_toArray, size_zeroCells, hzsz, hlaid.1, hnl, ← Nat.add_mul]
        congr 1; omega) (by simpa using hcap') hes (by
        intro k u hu
        rw [Array.getElem?_append] at hu
        split at hu
        · have e1 : olds.toArray ++ news.toArray = (olds ++ news).toArray := by simp
          rw [e1, List.getElem?_toArray] at hu
          rcases List.mem_append.1 (List.mem_of_getElem? hu) with h | h
          · exact ho1 u h
          · exact hn1 u h
        · exact zero_one hzs ho (by rw [hzl]; exact hpos) _ _ u hu) (by
        intro k j x y hx hy
        obtain ⟨u, hu, hru⟩ := (hlaid.append hlaidN hxs).more (us := (Builtin.zeroCells zv.cells (cap' - (xs.length + ys.length))).toList) k j x y hx hy
        refine ⟨u, ?_, hru⟩
        have e1 : (olds.toArray ++ news.toArray ++ Builtin.zeroCells zv.cells (cap' - (xs.length + ys.length))) = (olds ++ news ++ (Builtin.zeroCells zv.cells (cap' - (xs.length + ys.length))).toList).toArray := by
          simp
        rw [e1, List.getElem?_toArray]; exact hu)
      rw [List.length_append] at this
      exact this
    rcases hown with ⟨rfl, ad0, rfl⟩ | ⟨b, off, c, cs, rfl, rfl, hz0, hh, hcs, hzcs, hc, hn, hone, hrep⟩
    · cases ad0 with
      | none =>
        have hrun := run_append_nil (P := P) w t ty e i' zv hu hi hz ⟨b2, off2, none⟩ ys.length cap2 news hnl hncell hm0 (by simp at hlen; omega) (by rw [hiby]; simp at hbytes; omega)
        refine ⟨_, _, hrun, ?_⟩
        have := newblk [] (grownCap w ys.length 0 e) ⟨by simp, by simp⟩ (by simp) (by simpa using grownCap_ge w ys.length 0 e)
        simpa using this
      | some a0 =>
        have hrun := run_append_grow (P := P) w t ty e i' zv hu hi hz a0 0 0 [] (by simp) (by simp) ⟨b2, off2, none⟩ ys.length cap2 news hnl hncell (by omega) (by simp at hlen; omega) (growslice_fits (by omega) (by rw [hiby]; exact hbytes))
        refine ⟨_, _, hrun, ?_⟩
        exact newblk [] _ ⟨by simp, by simp⟩ (by simp) (grownCap_ge w _ 0 e)
    · have hOw := hos b rfl
      have hcm : xs.length * i'.size ≤ c * i'.size := Nat.mul_le_mul_right _ hc
      by_cases hroom : xs.length + ys.length ≤ c
      · have hcm2 : (xs.length + ys.length) * i'.size ≤ c * i'.size := Nat.mul_le_mul_right _ hroom
        rw [Nat.add_mul] at hcm2
        have hfit : off + xs.length * i'.size + news.length ≤ cs.size := by rw [hnl]; omega
        have hrun := run_append_room_off (P := P) w t ty e i' hu hi b off xs.length c cs hh ⟨b2, off2, none⟩ ys.length cap2 news hnl hncell hn1 hroom hfit
        refine ⟨_, _, hrun, ?_⟩
        have hat : ∀ k, (cs.toList.take (off + xs.length * i'.size) ++ news ++ cs.toList.drop (off + xs.length * i'.size + news.length)).toArray[k]? = if k < off + xs.length * i'.size then cs[k]? else if k < off + xs.length * i'.size + news.length then news[k - (off + xs.length * i'.size)]? else cs[k]? := by
          intro k
          rw [List.getElem?_toArray, splice_at (by simpa using hfit), Array.getElem?_toList]
        have hsz' : (cs.toList.take (off + xs.length * i'.size) ++ news ++ cs.toList.drop (off + xs.length * i'.size + news.length)).toArray.size = cs.size := by simp; omega
        have hr3 := (hr.label (t := s) (v' := .unk) (VRel.unk _)).growown (s := s) (lo := 0) (hi := 0) hOw (by rw [lk_self]) (fun k hk => absurd hk (hn k)) hh (setRow_heap w b cs _ e (0, 0) hh) hsz' (fun k hk => by omega) rfl rfl rfl (setRow_size ..) (fun c' hc' => setRow_other w b c' _ hc')
        have hr4 := hr3.forget s
        have hm' : ∀ b' k, M b' k → (M b' k ∨ (b' = b ∧ 0 ≤ k ∧ k < 0)) ∧
            (w.setRow b (cs.toList.take (off + xs.length * i'.size) ++ news ++ cs.toList.drop (off + xs.length * i'.size + news.length)).toArray).cell? ⟨b', k, none⟩ = w.cell? ⟨b', k, none⟩ := by
          intro b' k hM
          refine ⟨.inl hM, ?_⟩
          by_cases eb : b' = b
          · subst eb; exact absurd hM (hn k)
          · exact cell_setRow_other w b _ ⟨b', k, none⟩ eb
        have hr5 := hr4.putv hd (x := .raw e z (xs ++ ys)) (o := some b) (cv := .slice (some ⟨b, off, none⟩) (xs.length + ys.length) c)
          ⟨i', hi, hes, .inr ⟨b, off, c, _, rfl, by rw [List.length_append], hz0, setRow_heap w b cs _ e (0, 0) hh, by rw [hsz']; exact hcs, fun h => by rw [hsz']; exact hzcs h, by rw [List.length_append]; exact hroom, fun k hk => by
            rcases hk with h | ⟨_, _, h⟩
            · exact hn k h
            · omega, fun k u hu => by
            rw [hat] at hu
            split at hu
            · exact hone k u hu
            · split at hu
              · exact hn1 u (List.mem_of_getElem? hu)
              · exact hone k u hu, fun k j x y hx hy => by
            have hj : j < i'.size := by
              rw [← hes x (List.mem_of_getElem? hx)]
              rcases Nat.lt_or_ge j x.cells.length with h | h
              · exact h
              · rw [List.getElem?_eq_none h] at hy; cases hy
            rcases Nat.lt_or_ge k xs.length with hk | hk
            · rw [List.getElem?_append_left hk] at hx
              obtain ⟨u, hu, hru⟩ := hrep k j x y hx hy
              refine ⟨u, ?_, hru.mono hm'⟩
              have : (k + 1) * i'.size ≤ xs.length * i'.size := Nat.mul_le_mul_right _ hk
              rw [Nat.succ_mul] at this
              rw [hat, if_pos (by omega)]; exact hu
            · rw [List.getElem?_append_right hk] at hx
              obtain ⟨u, hu, hru⟩ := hnrep (k - xs.length) j x y hx hy
              refine ⟨u, ?_, hru.mono hm'⟩
              have e1 : k * i'.size = xs.length * i'.size + (k - xs.length) * i'.size := by rw [← Nat.add_mul]; congr 1; omega
              have hlt : (k - xs.length) * i'.size + j < news.length := by
                rcases Nat.lt_or_ge ((k - xs.length) * i'.size + j) news.length with h | h
                · exact h
                · rw [List.getElem?_eq_none h] at hu; cases hu
              rw [hat, if_neg (by omega), if_pos (by omega), e1]
              rw [show off + (xs.length * i'.size + (k - xs.length) * i'.size) + j - (off + xs.length * i'.size) = (k - xs.length) * i'.size + j by omega]; exact hu⟩⟩ (own_refs rfl) (fun c' hc' => by
            obtain rfl := Option.some.inj hc'
            exact hr3.forget_free hOw)
        refine ⟨_, _, hr5.sub fun l v hl => ?_⟩
        rw [lk_cons] at hl ⊢
        split
        · rename_i e; rw [if_pos e] at hl; exact hl
        · rename_i e
          rw [if_neg e] at hl
          rw [lk_cons] at hl ⊢
          split
          · rename_i e2; rw [if_pos e2] at hl; exact hl
          · rename_i e2; rw [if_neg e2] at hl; rw [lk_ne _ _ e2]; exact hl
      · have hol : ((cs.toList.drop off).take (xs.length * i'.size)).length = xs.length * i'.size := by
          have hcl : cs.toList.length = cs.size := Array.length_toList
          rw [List.length_take, List.length_drop, hcl]; omega
        have hoat : ∀ j, j < xs.length * i'.size → ((cs.toList.drop off).take (xs.length * i'.size))[j]? = cs[off + j]? := by
          intro j hj
          rw [List.getElem?_take, if_pos hj, List.getElem?_drop, Array.getElem?_toList]
        have hrun := run_append_grow (P := P) w t ty e i' zv hu hi hz ⟨b, off, none⟩ xs.length c ((cs.toList.drop off).take (xs.length * i'.size)) hol (by
          intro j u hu
          have hj : j < xs.length * i'.size := by
            rcases Nat.lt_or_ge j (xs.length * i'.size) with h | h
            · exact h
            · rw [List.getElem?_eq_none (by rw [hol]; exact h)] at hu; cases hu
          rw [hoat j hj] at hu
          rw [add_lit]; simpa [World.cell?, hh] using hu) ⟨b2, off2, none⟩ ys.length cap2 news hnl hncell (by omega) (by omega) (growslice_fits (by omega) (by rw [hiby]; exact hbytes))
        refine ⟨_, _, hrun, ?_⟩
        refine newblk _ _ ⟨hol, fun k j x y hx hy => ?_⟩ (fun u hu => ?_) (grownCap_ge w _ c e)
        · obtain ⟨u, hu, hru⟩ := hrep k j x y hx hy
          refine ⟨u, ?_, hru⟩
          have hj : j < i'.size := by
            rw [← hxs x (List.mem_of_getElem? hx)]
            rcases Nat.lt_or_ge j x.cells.length with h | h
            · exact h
            · rw [List.getElem?_eq_none h] at hy; cases hy
          have hk : k < xs.length := by
            rcases Nat.lt_or_ge k xs.length with h | h
            · exact h
            · rw [List.getElem?_eq_none h] at hx; cases hx
          have : (k + 1) * i'.size ≤ xs.length * i'.size := Nat.mul_le_mul_right _ hk
          rw [Nat.succ_mul] at this
          rw [hoat _ (by omega), ← Nat.add_assoc]; exact hu
        · obtain ⟨j, hj⟩ := List.mem_iff_getElem?.1 hu
          have hj' : j < xs.length * i'.size := by
            rcases Nat.lt_or_ge j (xs.length * i'.size) with h | h
            · exact h
            · rw [List.getElem?_eq_none (by rw [hol]; exact h)] at hj; cases hj
          rw [hoat j hj'] at hj
          exact hone _ u hj
end
end Go.Lg

set_option linter.unusedVariables false
set_option linter.unusedSimpArgs false
namespace Go.Lg
open Go Go.RowKit
section
variable {P : Program} {G : Env} {n : Nat} {tab : Tab} {m : Store}
def evLit0 (tab : Tab) (n : Nat) (ops : List Oper) (o : Oper) (m : Store) : Option (TypeId × Nat) := match o.op, o.dst, gOk m ops o.guard with
  | .buildSlice t 0 ⟨[]⟩, some d, true => match Nat.blt d n, tlk tab t with
    | true, some ⟨_, _, .slice e, _⟩ => match tlk tab e with
      | some _ => some (e, d)
      | none => none
    | _, _ => none
  | _, _, _ => none
theorem Sq.lit0R {ops l : List Oper} {o : Oper} {e : TypeId} {d : Nat} {K : Store → Prop} (hT : TabOk P tab) (h : evLit0 tab n ops o m = some (e, d)) (k : Sq P G n ops l ((.s d, .raw e true []) :: m) K) : Sq P G n ops (o :: l) m K := by
  obtain ⟨dst, op, type, pos, after, guard⟩ := o
  unfold evLit0 at h
  simp only at h
  split at h
  · rename_i t d' hgd
    split at h
    · rename_i e' _ hlt ht
      split at h
      · rename_i de he
        simp only [Option.some.injEq, Prod.mk.injEq] at h
        obtain ⟨rfl, rfl⟩ := h
        refine Sq.do hgd (fun Γ M Ow a w hr => ?_) k
        obtain ⟨ie, hie, hsz, _⟩ := hT.info he
        have hu := hT.slice ht rfl
        refine ⟨.slice (some ⟨w.heap.size, 0, none⟩) 0 0, w.alloc (.cells #[] e'), ?_, ?_⟩
        · have := run_buildSlice0 (P := P) (w := w) (parts := #[]) hu hie rfl
          have e0 : Array.map (fun (x : Nat × Operand) => (x.1, a.eval x.2)) ⟨[]⟩ = #[] := by simp
          simp only [execOp]
          rw [Sem.run_bind, e0, this]
          rfl
        · have := putraw_new (z := true) (cap := 0) (xs := []) hr (Nat.lt_of_succ_le (Nat.le_of_ble_eq_true hlt)) hie (below_alloc w (.cells #[] e')) (alloc_at w _) (by simp) (by simp) (by simp) (by simp) (by simp)
          simpa using this
      · cases h
    · cases h
  · cases h
def evAppR (tab : Tab) (n : Nat) (ops : List Oper) (o : Oper) (m : Store) : Option (TypeId × Nat × Nat × Bool × List T × List T × Nat) := match o.op, o.dst, gOk m ops o.guard with
  | .call ⟨.builtin .append, ⟨[x, y]⟩, ⟨[t, t']⟩⟩, some d, true => match Nat.blt d n, Nat.beq t t', tlk tab t with
    | true, true, some ⟨_, _, .slice e, _⟩ => match tlk tab e, opV m y with
      | some ⟨es, by', _, zs⟩, some yv => match Nat.beq zs.length es, Nat.ble 1 es, Nat.ble by' 131072, Nat.ble 1 by', lsOf yv with
        | true, true, true, true, some ys => match x with
          | .tmp s => match lk m (.s s) with
            | some (.raw e' z xs) => match Nat.beq e' e with
              | true => some (e, es, s, z, xs, ys, d)
              | false => none
            | _ => none
          | .const (.slice none 0 0) => some (e, es, d, true, [], ys, d)
          | _ => none
        | _, _, _, _, _ => none
      | _, _ => none
    | _, _, _ => none
  | _, _, _ => none
theorem Sq.appendR {ops l : List Oper} {o : Oper} {e es s d : Nat} {z : Bool} {xs ys : List T} {K : Store → Prop} (hT : TabOk P tab) (h : evAppR tab n ops o m = some (e, es, s, z, xs, ys, d)) (hys : ∀ y, y ∈ ys → y.cells.length = es) (hlen : xs.length + ys.length ≤ 1073741824)
    (k : Sq P G n ops l ((.s d, .raw e z (xs ++ ys)) :: (.s s, .unk) :: m) K) : Sq P G n ops (o :: l) m K := by
  obtain ⟨dst, op, type, pos, after, guard⟩ := o
  unfold evAppR at h
  simp only at h
  split at h
  · rename_i x y t t' d' hgd
    split at h
    · rename_i e0 _ hlt htt ht
      split at h
      · rename_i es' by' kd zs yv he hyv
        split at h
        · rename_i ys' hz1 hz2 hz3 hz4 hls
          obtain rfl : t = t' := Nat.eq_of_beq_eq_true htt
          have hd : d' < n := Nat.lt_of_succ_le (Nat.le_of_ble_eq_true hlt)
          have hzl : zs.length = es' := Nat.eq_of_beq_eq_true hz1
          have hpos : 0 < es' := Nat.le_of_ble_eq_true hz2
          have hby : by' ≤ 131072 := Nat.le_of_ble_eq_true hz3
          have fin : ∀ {s0 : Nat} {z0 : Bool} {xs0 : List T}, (e0, es', s0, z0, xs0, ys', d') = (e, es, s, z, xs, ys, d) → (∀ (a : Act), ((lk m (.s s0) = some (.raw e0 z0 xs0) ∧ a.eval x = a.tmps.getD s0 undef) ∨ (xs0 = [] ∧ a.eval x = .slice none 0 0))) → Sq P G n ops (⟨some d', .call ⟨.builtin .append, ⟨[x, y]⟩, ⟨[t, t]⟩⟩, type, pos, after, guard⟩ :: l) m K := by
            intro s0 z0 xs0 heq hb
            simp only [Prod.mk.injEq] at heq
            obtain ⟨rfl, rfl, rfl, rfl, rfl, rfl, rfl⟩ := heq
            refine Sq.do hgd (fun Γ M Ow a w hr => ?_) k
            obtain ⟨q, hq⟩ := opV_ok hyv hr
            have hq := deg_vrel hq
            rw [lsOf_eq hls] at hq
            have hrep : Rep w M (.ls ys') (a.eval y) := by cases hq with | tr _ _ h => exact h
            have hb' : (xs0.length + ys'.length) * by' ≤ 140737488355328 := by
              have := Nat.mul_le_mul hlen hby
              omega
            obtain ⟨ie, hie, _⟩ := hT.info he
            have hbase : ∃ o, RawRel P w M e0 z0 xs0 (a.eval x) o ∧ ∀ b, o = some b → Ow (.s s0) 0 = some b := by
              rcases hb a with ⟨h1, h2⟩ | ⟨rfl, h2⟩
              · rw [h2]; exact ⟨_, hr.slot s0 _ h1, fun b hb => hb⟩
              · rw [h2]; exact ⟨none, ⟨ie, hie, (fun x hx => nomatch hx), .inl ⟨rfl, none, rfl⟩⟩, fun b hb => nomatch hb⟩
            obtain ⟨v, w', h1, h2⟩ := appendR_run hT hr (dt := _) (de := ⟨es', by', kd, zs⟩) ht rfl he hpos hzl hd (ty := type) hbase hrep hys hb' (by omega)
            refine ⟨v, w', ?_, h2⟩
            simp [execOp, resolve, invoke, builtin, h1]
          split at h
          · rename_i s0
            split at h
            · rename_i e' z0 xs0 hs0
              split at h
              · rename_i hee
                obtain rfl : e' = e0 := Nat.eq_of_beq_eq_true hee
                exact fin (Option.some.inj h) (fun a => .inl ⟨hs0, rfl⟩)
              · cases h
            · cases h
          · exact fin (Option.some.inj h) (fun a => .inr ⟨rfl, rfl⟩)
          · cases h
        · cases h
      · cases h
    · cases h
  · cases h
def evPartO (tab : Tab) (n : Nat) (ops : List Oper) (o : Oper) (m : Store) : Option (Nat × AV × Bd × Bd × Nat) := match o.op, o.dst, gOk m ops o.guard with
  | .slice t (.tmp s) lo hi none, some d, true => match Nat.blt d n, tlk tab t with
    | true, some ⟨_, _, .slice e, _⟩ => match tlk tab e, lk m (.s s), bdO m lo, bdO m hi with
      | some _, some (.own e' xs), some l, some h => match Nat.beq e' e with
        | true => some (s, .own e xs, l, h, d)
        | false => none
      | some _, some (.raw e' z xs), some l, some h => match Nat.beq e' e with
        | true => some (s, .raw e z xs, l, h, d)
        | false => none
      | _, _, _, _ => none
    | _, _ => none
  | _, _, _ => none
theorem RawRel.part {w : World} {M : Nat → Nat → Prop} {e : TypeId} {z : Bool} {xs : List T} {ad : Option Addr} {q cap : Nat} {o : Option Nat} (h : RawRel P w M e z xs (.slice ad q cap) o) {ie : TypeInfo} (hie : P.info? e = some ie) {l hi : Nat} (hl : l ≤ hi) (hhi : hi ≤ xs.length) :
    RawRel P w M e (z && l == 0) ((xs.drop l).take (hi - l)) (.slice (if cap = l then ad else ad.map (·.add (l * ie.size))) (hi - l) (cap - l)) o := by
  obtain ⟨i, hi1, hx, h⟩ := h
  obtain rfl : i = ie := by rw [hie] at hi1; exact (Option.some.inj hi1).symm
  refine ⟨i, hie, fun x hm => hx x (List.mem_of_mem_drop (List.mem_of_mem_take hm)), ?_⟩
  rcases h with ⟨rfl, ad0, e1⟩ | ⟨b, off, c, cs, rfl, e1, hz, hh, hs, hzs, hc, hn, h1, hr⟩
  · injection e1 with e1 e2 e3
    subst e1; subst e2; subst e3
    simp at hhi; subst hhi
    obtain rfl : l = 0 := by omega
    exact .inl ⟨by simp, ad, by simp⟩
  · injection e1 with e1 e2 e3
    subst e1; subst e3
    have hlen : ((xs.drop l).take (hi - l)).length = hi - l := by simp; omega
    by_cases ec : cap = l
    · rw [if_pos ec]
      have : hi - l = 0 := by omega
      exact .inl ⟨List.eq_nil_of_length_eq_zero (by omega), some ⟨b, off, none⟩, by rw [this]; congr 1; omega⟩
    · rw [if_neg ec]
      have e2 : l * i.size + (cap - l) * i.size = cap * i.size := by rw [← Nat.add_mul]; congr 1; omega
      refine .inr ⟨b, off + l * i.size, cap - l, cs, rfl, ?_, ?_, hh, by omega, ?_, by omega, hn, h1, ?_⟩
      · rw [hlen]; simp only [Option.map_some, add_lit]
      · intro h
        rw [Bool.and_eq_true, beq_iff_eq] at h
        rw [h.2, hz h.1]; simp
      · intro h
        rw [Bool.and_eq_true, beq_iff_eq] at h
        rw [h.2]; exact hzs h.1
      · intro i' j x y hx hy
        rw [List.getElem?_take] at hx
        split at hx
        · rw [List.getElem?_drop] at hx
          obtain ⟨u, hu, hru⟩ := hr (l + i') j x y hx hy
          refine ⟨u, ?_, hru⟩
          rw [Nat.add_mul] at hu
          rw [show off + l * i.size + i' * i.size + j = off + (l * i.size + i' * i.size) + j by omega]; exact hu
        · cases hx
theorem OwnRel.tail {w : World} {M : Nat → Nat → Prop} {e : TypeId} {xs : List T} {ad : Option Addr} {q cap : Nat} {o : Option Nat} (h : OwnRel P w M e xs (.slice ad q cap) o) {ie : TypeInfo} (hie : P.info? e = some ie) {l : Nat} (hl : l ≤ xs.length) :
    OwnRel P w M e (xs.drop l) (.slice (if cap = l then ad else ad.map (·.add (l * ie.size))) (xs.length - l) (cap - l)) o := by
  obtain ⟨i, hi1, hx, h⟩ := h
  obtain rfl : i = ie := by rw [hie] at hi1; exact (Option.some.inj hi1).symm
  refine ⟨i, hie, fun x hm => hx x (List.mem_of_mem_drop hm), ?_⟩
  rcases h with ⟨rfl, ad0, e1⟩ | ⟨b, off, c, cs, rfl, e1, hrep, hh, hs, hc, hn, h1⟩
  · injection e1 with e1 e2 e3
    subst e1; subst e2; subst e3
    simp at hl; subst hl
    exact .inl ⟨by simp, ad, by simp⟩
  · injection e1 with e1 e2 e3
    subst e1; subst e3; subst e2
    have hpart := hrep.part (es := i.size) (l := l) (hi := xs.length) hx hl (Nat.le_refl _)
    rw [show (xs.drop l).take (xs.length - l) = xs.drop l by rw [List.take_of_length_le (by simp)]] at hpart
    by_cases ec : cap = l
    · rw [if_pos ec]
      have : xs.length - l = 0 := by omega
      exact .inl ⟨List.eq_nil_of_length_eq_zero (by simp; omega), some ⟨b, off, none⟩, by rw [this]; congr 1; omega⟩
    · rw [if_neg ec] at hpart ⊢
      have e2 : l * i.size + (cap - l) * i.size = cap * i.size := by rw [← Nat.add_mul]; congr 1; omega
      have e3 : l * i.size + (xs.length - l) * i.size = xs.length * i.size := by rw [← Nat.add_mul]; congr 1; omega
      simp only [Option.map_some, add_lit] at hpart ⊢
      refine .inr ⟨b, off + l * i.size, cap - l, cs, rfl, by rw [List.length_drop], hpart, hh, by omega, by rw [List.length_drop]; omega, fun k hk => ?_, h1⟩
      rw [List.length_drop] at hk
      exact hn k (by omega)
theorem Rel.swap {Γ : Ctx} {M : Nat → Nat → Prop} {Ow : Loc → Nat → Option Nat} {a : Act} {w : World} (hr : Rel P Γ M Ow n m a w) {s d : Nat} (hd : d < n) {x : AV} (hx : x.isOwn = true) {cv : Value} (hv : SRel P w M Ow x cv (Ow (.s s) 0)) :
    RelX P Γ n ((.s d, x) :: (.s s, .unk) :: m) (a.put (some d) cv) w :=
  ⟨_, _, (hr.forget s).putv hd (o := Ow (.s s) 0) (own_any hx hv) (own_refs hx) (fun b hb => hr.forget_free hb)⟩
def evTake (n : Nat) (ops : List Oper) (o : Oper) (m : Store) : Option (Nat × AV × Nat) := match o.op, o.dst, gOk m ops o.guard with
  | .move (.tmp s), some d, true => match Nat.blt d n, lk m (.s s) with
    | true, some x => match x.isOwn with
      | true => some (s, x, d)
      | false => none
    | _, _ => none
  | _, _, _ => none
theorem Sq.take {ops l : List Oper} {o : Oper} {s d : Nat} {x : AV} {K : Store → Prop} (h : evTake n ops o m = some (s, x, d)) (k : Sq P G n ops l ((.s d, x) :: (.s s, x.deg) :: m) K) : Sq P G n ops (o :: l) m K := by
  obtain ⟨dst, op, type, pos, after, guard⟩ := o
  unfold evTake at h
  simp only at h
  split at h
  · rename_i s0 d' hgd
    split at h
    · rename_i x0 hlt hx
      split at h
      · rename_i hown
        simp only [Option.some.injEq, Prod.mk.injEq] at h
        obtain ⟨rfl, rfl, rfl⟩ := h
        refine Sq.do hgd (fun Γ M Ow a w hr => ?_) k
        obtain ⟨Ow', h'⟩ := hr.take (Nat.lt_of_succ_le (Nat.le_of_ble_eq_true hlt)) hown hx
        exact ⟨a.eval (.tmp s0), w, rfl, M, Ow', h'⟩
      · cases h
    · cases h
  · cases h
theorem Sq.tailO {ops l : List Oper} {o : Oper} {e : TypeId} {xs : List T} {s d : Nat} {lo : Bd} {K : Store → Prop} (hT : TabOk P tab) (h : evPartO tab n ops o m = some (s, .own e xs, lo, .no, d))
    (h0 : 0 ≤ lo.lo) (h1 : lo.lo ≤ xs.length)
    (k : Sq P G n ops l ((.s d, .own e (xs.drop lo.lo.toNat)) :: (.s s, .unk) :: m) K) : Sq P G n ops (o :: l) m K := by
  obtain ⟨dst, op, type, pos, after, guard⟩ := o
  unfold evPartO at h
  simp only at h
  split at h
  · rename_i t s0 lo' hi' d' hgd
    split at h
    · rename_i e0 _ hlt ht
      split at h
      · rename_i de e' xs' l' h' he hx hlo hhi
        split at h
        · rename_i hee
          obtain rfl : e' = e0 := Nat.eq_of_beq_eq_true hee
          simp only [Option.some.injEq, Prod.mk.injEq, AV.own.injEq] at h
          obtain ⟨rfl, ⟨rfl, rfl⟩, rfl, rfl, rfl⟩ := h
          refine Sq.do hgd (fun Γ M Ow a w hr => ?_) k
          have hu := hT.slice ht rfl
          obtain ⟨ie, hie, hsz, _⟩ := hT.info he
          have hown : OwnRel P w M e' xs' (a.tmps.getD s0 undef) (Ow (.s s0) 0) := hr.slot s0 _ hx
          obtain ⟨ad, cap, e1, hcap⟩ : ∃ ad cap, a.tmps.getD s0 undef = .slice ad xs'.length cap ∧ xs'.length ≤ cap := by
            obtain ⟨_, _, _, ⟨rfl, ad, e1⟩ | ⟨b, off, cap, cs, _, e1, _, _, _, hc, _⟩⟩ := hown
            · exact ⟨ad, 0, e1, Nat.le_refl _⟩
            · exact ⟨_, cap, e1, hc⟩
          have ex : a.eval (.tmp s0) = .slice ad xs'.length cap := e1
          rw [e1] at hown
          have hb := run_bounds (P := P) (w := w) (isSlice := true) (q := xs'.length) (cap := cap) (bdO_ok hlo hr) (bdO_ok hhi hr) h0 (by simpa [Bd.hi] using h1) (by simp [Bd.hi]; omega) hcap
          have hpart := hown.tail hie (l := l'.lo.toNat) (by omega)
          refine ⟨_, w, ?_, hr.swap (Nat.lt_of_succ_le (Nat.le_of_ble_eq_true hlt)) (x := .own _ _) rfl hpart⟩
          simp [execOp, Instr.sliceAt, Instr.slice, ex, run_underlying hu, hb, sizeOf, typeInfo, hie, Bd.hi]
        · cases h
      · split at h <;> first | (cases h; done) | (injection h with h; injection h with h1 h; injection h with h2 h; cases h2)
      · cases h
    · cases h
  · cases h
def evIdxAE (tab : Tab) (n : Nat) (ops : List Oper) (o : Oper) (m : Store) : Option (List T × Nat × Nat × Nat × Int × Nat) := match o.op, o.dst, gOk m ops o.guard with
  | .indexAddr t x i, some d, true => match Nat.blt d n, tlk tab t with
    | true, some ⟨_, _, .array len e, _⟩ => match tlk tab e, opV m x, opV m i with
      | some ⟨es, _, _, _⟩, some (.ep cs off), some (.tr (.sc (.int _ j))) => some (cs, off, len, es, j, d)
      | _, _, _ => none
    | _, _ => none
  | _, _, _ => none
theorem Sq.indexAE {ops l : List Oper} {o : Oper} {cs : List T} {off len es d : Nat} {j : Int} {K : Store → Prop} (hT : TabOk P tab) (h : evIdxAE tab n ops o m = some (cs, off, len, es, j, d)) (h0 : 0 ≤ j) (hj : j < len)
    (k : Sq P G n ops l ((.s d, .ep cs (off + j.toNat * es)) :: m) K) : Sq P G n ops (o :: l) m K := by
  obtain ⟨dst, op, type, pos, after, guard⟩ := o
  unfold evIdxAE at h
  simp only at h
  split at h
  · rename_i t ox oi d' hgd
    split at h
    · rename_i len0 e _ hlt ht
      split at h
      · rename_i es' _ _ _ cs' off' ik j' he hv hi
        simp only [Option.some.injEq, Prod.mk.injEq] at h
        obtain ⟨rfl, rfl, rfl, rfl, rfl, rfl⟩ := h
        refine Sq.do hgd (fun Γ M Ow a w hr => ?_) k
        obtain ⟨q1, hq1⟩ := opV_ok hv hr
        obtain ⟨q2, hq2⟩ := opV_ok hi hr
        have e2 := (sc_eval (Γ := Γ) hq2).1
        have hq1 : VRel w M (fun κ => Ow κ 0) (.ep cs' off') (a.eval ox) := hq1
        obtain ⟨ie, hie, hsz, _⟩ := hT.info he
        have hsz : ie.size = es' := hsz
        have hu := hT.array ht rfl
        have hin : 0 ≤ j' ∧ j' < (len0 : Int) := ⟨h0, hj⟩
        generalize hq : a.eval ox = q at hq1
        cases hq1 with
        | ep _ _ b ob f c1 c2 c3 c4 =>
          refine ⟨.pointer (some ⟨b, ob + (off' + j'.toNat * es'), none⟩), w, ?_, M, Ow, hr.put (Nat.lt_of_succ_le (Nat.le_of_ble_eq_true hlt)) (.ep _ _ b ob f c1 c2 c3 c4)⟩
          simp [execOp, hq, e2, Instr.indexAt, asIntOf, run_underlying hu, hin, sizeOf, typeInfo, hie, hsz, add_lit, Instr.sureAddr, Nat.add_assoc]
      · cases h
    · cases h
  · cases h
theorem Tr.scopeS {ι : Type} {c rest : Code} {Q : Exit → Store → Prop} (l : Nat) (hf : findLabel c l = some (.seq .skip rest)) (S : ι → Store) (μ : ι → Nat) (inv : ι → Prop)
    (first : Tr P G n c m (jumpQ l (fun m' => ∃ i, inv i ∧ Sub (S i) m') Q))
    (pass : ∀ i, inv i → Tr P G n rest (S i) (jumpQ l (fun m' => ∃ j, inv j ∧ μ j < μ i ∧ Sub (S j) m') Q)) : Tr P G n (.scope c) m Q :=
  Tr.scope l hf S μ inv first (fun i hi => zS (zK (pass i hi)))
end
end Go.Lg

set_option linter.unusedVariables false
set_option linter.unusedSimpArgs false
namespace Go.Lg.Sem
open Go
def rdy (A : List (BitVec 64)) (set : BitVec 64) (i : Nat) : Bool := match A[i]? with
  | some a => readyB a set i
  | none => false
theorem ready_bit (A : List (BitVec 64)) (set : BitVec 64) : ∀ (k i : Nat), k ≤ 64 → (readyUp A set k).getLsbD i = (decide (i < k) && rdy A set i)
  | 0, i, _ => by simp [readyUp]
  | k + 1, i, h => by
    have ih := ready_bit A set k i (by omega)
    have hb : (1#64 <<< k).getLsbD i = decide (i = k) := by
      rw [BitVec.getLsbD_shiftLeft, BitVec.getLsbD_one]
      by_cases e : i = k
      · subst e; simp; omega
      · simp [e]; omega
    unfold readyUp
    unfold rdy at *
    by_cases e : i = k
    · subst e
      cases hA : A[i]? with
      | none => simp only; rw [ih, hA]; simp
      | some a =>
        simp only
        cases hr : readyB a set i
        · simp only [Bool.false_eq_true, if_false]; rw [ih]; simp
        · simp only [if_true, BitVec.getLsbD_or]; rw [ih, hb]; simp
    · have e1 : decide (i < k + 1) = decide (i < k) := by
        rw [Bool.eq_iff_iff, decide_eq_true_eq, decide_eq_true_eq]; omega
      rw [e1]
      cases hA : A[k]? with
      | none => simp only; exact ih
      | some a =>
        simp only
        split
        · rw [BitVec.getLsbD_or, ih, hb]; simp [e]
        · exact ih
end Go.Lg.Sem

set_option linter.unusedVariables false
set_option linter.unusedSimpArgs false
namespace Go.Lg.Sem
open Go
theorem snoc_ind {α : Type} {P : List α → Prop} (h0 : P []) (h1 : ∀ l x, P l → P (l ++ [x])) : ∀ l, P l := fun l => by
  have : ∀ r : List α, P r.reverse := by
    intro r
    induction r with
    | nil => exact h0
    | cons x r ih => rw [List.reverse_cons]; exact h1 _ _ ih
  simpa using this l.reverse
theorem ahead_bit (n : Nat) (hn : n ≤ 64) : ∀ (es : List (Nat × Nat)), (∀ p, p ∈ es → p.1 < n ∧ p.2 < n) → ∀ (i : Nat) (a : BitVec 64), (aheadV n es)[i]? = some a → ∀ j, a.getLsbD j = es.any (fun p => p.2 == i && p.1 == j) := by
  intro es
  refine snoc_ind (P := fun es => (∀ p, p ∈ es → p.1 < n ∧ p.2 < n) → ∀ (i : Nat) (a : BitVec 64), (aheadV n es)[i]? = some a → ∀ j, a.getLsbD j = es.any (fun p => p.2 == i && p.1 == j)) ?_ ?_ es
  · intro _ i a ha j
    unfold aheadV at ha
    simp only [List.foldl_nil] at ha
    have : a = 0 := by
      have := List.mem_of_getElem? ha
      exact List.eq_of_mem_replicate this
    subst this; simp
  · intro es p ih hp i a ha j
    obtain ⟨h1, h2⟩ := hp p (by simp)
    have ih := ih (fun x hx => hp x (by simp [hx]))
    have e : aheadV n (es ++ [p]) = stepA (aheadV n es) p := by unfold aheadV; rw [List.foldl_append]; rfl
    have hl := ahead_len n es
    rw [e] at ha
    unfold stepA at ha
    rw [List.any_append]
    by_cases hi : p.2 = i
    · subst hi
      rw [List.getElem?_set_self (by omega)] at ha
      obtain rfl := Option.some.inj ha
      obtain ⟨b, hb⟩ : ∃ b, (aheadV n es)[p.2]? = some b := ⟨_, List.getElem?_eq_getElem (by omega)⟩
      rw [List.getD_eq_getElem?_getD, hb, Option.getD_some, BitVec.getLsbD_or, ih _ b hb j, BitVec.getLsbD_shiftLeft, BitVec.getLsbD_one]
      congr 1
      by_cases hj : p.1 = j
      · subst hj; simp; omega
      · have : ¬ (j - p.1 = 0 ∧ p.1 ≤ j ∧ j ≤ p.1) := by omega
        by_cases hlt : j < p.1
        · simp [hj, hlt]
        · have h0 : j - p.1 ≠ 0 := by omega
          simp [hj, h0]
    · rw [List.getElem?_set_ne hi] at ha
      rw [ih i a ha j]
      simp [hi]
end Go.Lg.Sem

set_option linter.unusedVariables false
set_option linter.unusedSimpArgs false
namespace Go.Lg.Sem
open Go
theorem ctz_bit (x : BitVec 64) (h : x ≠ 0#64) : x.getLsbD (Lib.ctz 64 x.toNat) = true ∧ Lib.ctz 64 x.toNat < 64 := by
  have h0 : x.toNat ≠ 0 := fun e => h (BitVec.eq_of_toNat_eq (by simpa using e))
  have hlt : x.toNat < 2 ^ 64 := x.isLt
  obtain ⟨m, hm, hc⟩ := Lib.ctzFrom_spec 64 x.toNat (by omega) hlt
  have e : Lib.ctz 64 x.toNat = Lib.ctzFrom 64 x.toNat := by unfold Lib.ctz; rw [if_neg h0]
  rw [e]
  generalize Lib.ctzFrom 64 x.toNat = c at *
  refine ⟨?_, hc⟩
  rw [BitVec.getLsbD, hm, Nat.testBit_eq_decide_div_mod_eq, Nat.mul_div_cancel_left _ (Nat.two_pow_pos c)]
  simp
structure OrdI (n : Nat) (es : List (Nat × Nat)) (out : List Nat) (set : BitVec 64) : Prop where
  nodup : out.Nodup
  lt : ∀ i, i ∈ out → i < n
  bits : ∀ i, set.getLsbD i = decide (i ∈ out)
  need : ∀ (k i : Nat), out[k]? = some i → ∀ j, (j, i) ∈ es → j ∈ out.take k
theorem OrdI.zero (n : Nat) (es : List (Nat × Nat)) : OrdI n es [] 0#64 := ⟨List.nodup_nil, fun i h => (nomatch h), fun i => by simp, fun k i h => by simp at h⟩
theorem rdy_iff {n : Nat} {es : List (Nat × Nat)} {out : List Nat} {set : BitVec 64} (h : OrdI n es out set) (hn : n ≤ 64) (hp : ∀ p, p ∈ es → p.1 < n ∧ p.2 < n) {i : Nat} (hi : i < n) :
    rdy (aheadV n es) set i = true ↔ i ∉ out ∧ ∀ j, (j, i) ∈ es → j ∈ out := by
  obtain ⟨a, ha⟩ : ∃ a, (aheadV n es)[i]? = some a := ⟨_, List.getElem?_eq_getElem (by rw [ahead_len]; exact hi)⟩
  have hb := ahead_bit n hn es hp i a ha
  unfold rdy
  rw [ha]
  simp only
  unfold readyB
  rw [Bool.and_eq_true, beq_iff_eq, beq_iff_eq]
  refine and_congr ?_ ?_
  · have hbi := h.bits i
    constructor
    · intro h0 hm
      rw [decide_eq_true hm] at hbi
      have : (set >>> i &&& 1#64).getLsbD 0 = true := by rw [BitVec.getLsbD_and, BitVec.getLsbD_ushiftRight]; simp [hbi]
      rw [h0] at this; simp at this
    · intro hm
      rw [decide_eq_false hm] at hbi
      apply BitVec.eq_of_getLsbD_eq
      intro k hk
      rw [BitVec.getLsbD_and, BitVec.getLsbD_ushiftRight]
      by_cases e : k = 0
      · subst e; simp [hbi]
      · simp [BitVec.getLsbD_one, e]
  · constructor
    · intro h0 j hj
      have hjn := (hp _ hj).1
      have : (a &&& ~~~set).getLsbD j = false := by rw [h0]; simp
      rw [BitVec.getLsbD_and, BitVec.getLsbD_not, hb j, h.bits j] at this
      have ht : (es.any fun p => p.2 == i && p.1 == j) = true := List.any_eq_true.2 ⟨(j, i), hj, by simp⟩
      rw [ht] at this
      simp at this
      exact this (by omega)
    · intro hall
      apply BitVec.eq_of_getLsbD_eq
      intro k hk
      rw [BitVec.getLsbD_and, BitVec.getLsbD_not, hb k, h.bits k]
      cases ht : es.any fun p => p.2 == i && p.1 == k
      · simp
      · obtain ⟨p, hpm, hpe⟩ := List.any_eq_true.1 ht
        simp only [Bool.and_eq_true, beq_iff_eq] at hpe
        obtain ⟨p1, p2⟩ := p
        obtain ⟨rfl, rfl⟩ := hpe
        have := hall p1 hpm
        simp [this]
end Go.Lg.Sem

set_option linter.unusedVariables false
set_option linter.unusedSimpArgs false
namespace Go.Lg.Sem
open Go
inductive EdgeWay (es : List (Nat × Nat)) : Nat → Nat → Prop
  | one {a b : Nat} : (a, b) ∈ es → EdgeWay es a b
  | snoc {a b c : Nat} : EdgeWay es a b → (b, c) ∈ es → EdgeWay es a c
theorem EdgeWay.trans {es : List (Nat × Nat)} {a b c : Nat} (h : EdgeWay es a b) (k : EdgeWay es b c) : EdgeWay es a c := by
  induction k with
  | one e => exact .snoc h e
  | snoc _ e ih => exact .snoc ih e
def CycP (n : Nat) (es : List (Nat × Nat)) : Prop := ∃ a, a < n ∧ EdgeWay es a a
theorem nodup_lt : ∀ (n : Nat) (l : List Nat), l.Nodup → (∀ i, i ∈ l → i < n) → l.length ≤ n
  | 0, l, _, h => by
    cases l with
    | nil => exact Nat.le_refl _
    | cons x r => exact absurd (h x (List.mem_cons_self ..)) (by omega)
  | n + 1, l, hd, h => by
    by_cases hn : n ∈ l
    · have h1 := nodup_lt n (l.erase n) (hd.erase n) (fun i hi => by
        have h2 := (hd.mem_erase_iff).1 hi
        have := h i h2.2
        have := h2.1
        omega)
      rw [List.length_erase_of_mem hn] at h1
      omega
    · have h1 := nodup_lt n l hd (fun i hi => by
        have := h i hi
        have : i ≠ n := fun e => hn (e ▸ hi)
        omega)
      omega
theorem OrdI.step {n : Nat} {es : List (Nat × Nat)} {out : List Nat} {set : BitVec 64} (h : OrdI n es out set) (hn : n ≤ 64) (hp : ∀ p, p ∈ es → p.1 < n ∧ p.2 < n) (hx : readyV n es set ≠ 0#64) :
    Lib.ctz 64 (readyV n es set).toNat < n ∧ OrdI n es (out ++ [Lib.ctz 64 (readyV n es set).toNat]) (set ||| (1#64 <<< Lib.ctz 64 (readyV n es set).toNat)) := by
  obtain ⟨h1, h2⟩ := ctz_bit _ hx
  have hb : (readyV n es set).getLsbD (Lib.ctz 64 (readyV n es set).toNat) = (decide (Lib.ctz 64 (readyV n es set).toNat < n) && rdy (aheadV n es) set (Lib.ctz 64 (readyV n es set).toNat)) := by
    unfold readyV; exact ready_bit _ _ n _ hn
  generalize Lib.ctz 64 (readyV n es set).toNat = i at *
  rw [h1] at hb
  have hb := hb.symm
  rw [Bool.and_eq_true, decide_eq_true_eq] at hb
  obtain ⟨hin, hr⟩ := hb
  obtain ⟨hout, hall⟩ := (rdy_iff h hn hp hin).1 hr
  refine ⟨hin, ?_, ?_, ?_, ?_⟩
  · rw [List.nodup_append]
    refine ⟨h.nodup, by simp, ?_⟩
    intro a ha b hb
    simp at hb; subst hb
    exact fun e => hout (e ▸ ha)
  · intro j hj
    rcases List.mem_append.1 hj with hj | hj
    · exact h.lt j hj
    · simp at hj; omega
  · intro j
    rw [BitVec.getLsbD_or, h.bits j, BitVec.getLsbD_shiftLeft, BitVec.getLsbD_one]
    by_cases e : j = i
    · subst e; simp; omega
    · by_cases hj : j ∈ out
      · simp [hj]
      · simp [hj, e]; omega
  · intro k j hk j' hj'
    rcases Nat.lt_or_ge k out.length with hl | hl
    · rw [List.getElem?_append_left hl] at hk
      have := h.need k j hk j' hj'
      rw [List.take_append_of_le_length (by omega)]; exact this
    · rw [List.getElem?_append_right hl] at hk
      have hk0 : k - out.length = 0 := by
        rcases Nat.eq_zero_or_pos (k - out.length) with e | e
        · exact e
        · rw [List.getElem?_eq_none (by simp; omega)] at hk; cases hk
      rw [hk0] at hk
      simp at hk; subst hk
      have : k = out.length := by omega
      subst this
      rw [List.take_left']
      · exact hall j' hj'
      · rfl
theorem circle_of {es : List (Nat × Nat)} (n : Nat) (U : Nat → Prop) (hU : ∀ i, U i → i < n ∧ ∃ j, U j ∧ (j, i) ∈ es) (i0 : Nat) (h0 : U i0) : CycP n es := by
  -- a way back of any length, as a list whose head is the last one that was found
  have way : ∀ k, ∃ l : List Nat, l.length = k + 1 ∧ (∀ x, x ∈ l → U x) ∧ l.Pairwise (fun a b => EdgeWay es a b) := by
    intro k
    induction k with
    | zero => exact ⟨[i0], rfl, by simpa using h0, by simp⟩
    | succ k ih =>
      obtain ⟨l, hl, hu, hp⟩ := ih
      cases l with
      | nil => simp at hl
      | cons x r =>
        obtain ⟨_, j, hj, he⟩ := hU x (hu x (List.mem_cons_self ..))
        refine ⟨j :: x :: r, by simp at hl ⊢; omega, ?_, ?_⟩
        · intro y hy
          rcases List.mem_cons.1 hy with rfl | hy
          · exact hj
          · exact hu y hy
        · rw [List.pairwise_cons]
          refine ⟨?_, hp⟩
          intro y hy
          rcases List.mem_cons.1 hy with rfl | hy
          · exact .one he
          · exact (EdgeWay.one he).trans ((List.pairwise_cons.1 hp).1 y hy)
  obtain ⟨l, hl, hu, hp⟩ := way n
  have hnd : ¬ l.Nodup := fun hd => by
    have := nodup_lt n l hd (fun i hi => (hU i (hu i hi)).1)
    omega
  apply Classical.byContradiction
  intro hc
  refine hnd ?_
  have : ∀ l : List Nat, (∀ x, x ∈ l → U x) → l.Pairwise (fun a b => EdgeWay es a b) → l.Nodup := by
    intro l
    induction l with
    | nil => intro _ _; exact List.nodup_nil
    | cons x r ih =>
      intro hu hp
      rw [List.pairwise_cons] at hp
      rw [List.nodup_cons]
      refine ⟨fun hx => hc ⟨x, (hU x (hu x (List.mem_cons_self ..))).1, hp.1 x hx⟩, ih (fun y hy => hu y (List.mem_cons_of_mem _ hy)) hp.2⟩
  exact this l hu hp
theorem OrdI.done {n : Nat} {es : List (Nat × Nat)} {out : List Nat} {set : BitVec 64} (h : OrdI n es out set) (hn : n ≤ 64) (hp : ∀ p, p ∈ es → p.1 < n ∧ p.2 < n) (hx : readyV n es set = 0#64) : out.length < n ↔ CycP n es := by
  have hno : ∀ i, i < n → i ∉ out → ∃ j, j < n ∧ j ∉ out ∧ (j, i) ∈ es := by
    intro i hi ho
    apply Classical.byContradiction
    intro hc
    have : rdy (aheadV n es) set i = true := (rdy_iff h hn hp hi).2 ⟨ho, fun j hj => Classical.byContradiction fun hjo => hc ⟨j, (hp _ hj).1, hjo, hj⟩⟩
    have hb : (readyV n es set).getLsbD i = (decide (i < n) && rdy (aheadV n es) set i) := by unfold readyV; exact ready_bit _ _ n _ hn
    rw [hx, this] at hb
    simp [hi] at hb
  constructor
  · intro hlt
    obtain ⟨i0, hi0, ho0⟩ : ∃ i, i < n ∧ i ∉ out := by
      apply Classical.byContradiction
      intro hc
      have hall : ∀ i, i < n → i ∈ out := fun i hi => Classical.byContradiction fun ho => hc ⟨i, hi, ho⟩
      have := (List.nodup_range (n := n)).length_le_of_subset (fun i hi => hall i (List.mem_range.1 hi))
      simp at this
      omega
    refine circle_of n (fun i => i < n ∧ i ∉ out) ?_ i0 ⟨hi0, ho0⟩
    rintro i ⟨hi, ho⟩
    obtain ⟨j, hj, hjo, hje⟩ := hno i hi ho
    exact ⟨hi, j, ⟨hj, hjo⟩, hje⟩
  · rintro ⟨a, ha, hr⟩
    apply Classical.byContradiction
    intro hge
    -- all are in the order: a way leads on in it
    have hall : ∀ i, i < n → i ∈ out := by
      intro i hi
      apply Classical.byContradiction
      intro ho
      have := nodup_lt n (i :: out) (List.nodup_cons.2 ⟨ho, h.nodup⟩) (fun j hj => by
        rcases List.mem_cons.1 hj with rfl | hj
        · exact hi
        · exact h.lt j hj)
      simp at this
      omega
    have key : ∀ a b, EdgeWay es a b → ∀ k, out[k]? = some b → a ∈ out.take k := by
      intro a b hr
      induction hr with
      | one e => intro k hk; exact h.need k _ hk _ e
      | snoc hab e ih =>
        intro k hk
        have hb := h.need k _ hk _ e
        obtain ⟨k', hk'⟩ := List.mem_iff_getElem?.1 hb
        have hlt : k' < k := by
          rcases Nat.lt_or_ge k' k with h | h
          · exact h
          · rw [List.getElem?_take, if_neg (by omega)] at hk'; cases hk'
        rw [List.getElem?_take, if_pos hlt] at hk'
        have := ih k' hk'
        have hsub : ∀ x, x ∈ out.take k' → x ∈ out.take k := by
          intro x hx
          obtain ⟨q, hq⟩ := List.mem_iff_getElem?.1 hx
          have hql : q < k' := by
            rcases Nat.lt_or_ge q k' with h | h
            · exact h
            · rw [List.getElem?_take, if_neg (by omega)] at hq; cases hq
          rw [List.getElem?_take, if_pos hql] at hq
          refine List.mem_iff_getElem?.2 ⟨q, ?_⟩
          rw [List.getElem?_take, if_pos (by omega)]; exact hq
        exact hsub _ this
    obtain ⟨k, hk⟩ := List.mem_iff_getElem?.1 (hall a ha)
    have hm := key a a hr k hk
    obtain ⟨q, hq⟩ := List.mem_iff_getElem?.1 hm
    have hql : q < k := by
      rcases Nat.lt_or_ge q k with h | h
      · exact h
      · rw [List.getElem?_take, if_neg (by omega)] at hq; cases hq
    rw [List.getElem?_take, if_pos hql] at hq
    have hkl : k < out.length := by
      rcases Nat.lt_or_ge k out.length with h | h
      · exact h
      · rw [List.getElem?_eq_none h] at hk; cases hk
    have hd := List.pairwise_iff_getElem.1 h.nodup q k (by omega) hkl hql
    rw [List.getElem?_eq_getElem (by omega)] at hq
    rw [List.getElem?_eq_getElem hkl] at hk
    exact hd (Option.some.inj (hq.trans hk.symm))
end Go.Lg.Sem

set_option linter.unusedVariables false
set_option linter.unusedSimpArgs false
namespace Go.Lg.Tryz
open Go Go.Proofs Go.RowKit Go.Lib Go.Lg.Sem
set_option maxRecDepth 8192 in
theorem Order_ok (n : Nat) (es : List (Nat × Nat)) (hn : n ≤ 64) (hl : es.length ≤ 4096) (hp : ∀ p, p ∈ es → p.1 < n ∧ p.2 < n) (cyc : Bool) (hc : cyc = true ↔ CycP n es) :
    Fn Tryz.prog Gw 19 [.tr (grT n es)] [] (fun x => ∃ l, x = .tup [.tr (.ls l), int (if cyc then 21 else 0)]) := by
  have hK := gCheck_ok n es hn hl hp
  refine Fn.of tab_ok Tryz.func19 rfl (by decide) (by simp [Tryz.f19]) rfl (fun κ v h => by cases h) Gw.below ?_
  repeat' (first|refine zS ?_|refine zR ?_|refine zE tab_ok rfl rfl ?_|refine zN ?_|(refine zG rfl rfl (fun _ => ?_) fun _ => ?_)<;>refine zE tab_ok rfl rfl ?_|(refine zC rfl (fun _ => ?_) fun _ => ?_)<;>try (rename_i h; cases h; done)|refine zB ?_|refine zK ?_|refine zZ ⟨_, rfl, ?_⟩)
  refine (fun hp => Tr.scopeS (ι := List Nat × BitVec 64) 0 rfl (fun i => [(.s 1, .ptr (.l 1) 0), (.l 1, .blk 39 [int n, .tr (.ls (es.map edT))]), (.s 5, .own 3 (i.1.map fun k : Nat => .sc (.int .i64 (k : Int)))), (.s 6, u64 i.2)]) (fun i => n - i.1.length) (fun i => OrdI n es i.1 i.2) ?_ hp) ?_
  · repeat' (first|refine zS ?_|refine zR ?_|refine zE tab_ok rfl rfl ?_|refine zN ?_|(refine zG rfl rfl (fun _ => ?_) fun _ => ?_)<;>refine zE tab_ok rfl rfl ?_|(refine zC rfl (fun _ => ?_) fun _ => ?_)<;>try (rename_i h; cases h; done)|refine zB ?_|refine zK ?_|refine zZ ⟨_, rfl, ?_⟩)
    refine Sq.callv rfl (hK) ?_
    repeat' (first|refine zS ?_|refine zR ?_|refine zE tab_ok rfl rfl ?_|refine zN ?_|(refine zG rfl rfl (fun _ => ?_) fun _ => ?_)<;>refine zE tab_ok rfl rfl ?_|(refine zC rfl (fun _ => ?_) fun _ => ?_)<;>try (rename_i h; cases h; done)|refine zB ?_|refine zK ?_|refine zZ ⟨_, rfl, ?_⟩)
    refine Tr.label ?_
    refine Tr.sub (m' := [_, _, _, _]) ?_ (Tr.mono (hp ([], 0#64) (OrdI.zero n es)) ?_)
    · exact ⟨rfl, rfl, rfl, rfl, trivial⟩
    · intro e m hq
      cases e with
      | goto l =>
        obtain ⟨h1, j, h2, _, h3⟩ := hq
        exact ⟨h1, j, h2, h3⟩
      | _ => exact hq
  · rintro ⟨out, set⟩ hi
    have hi : OrdI n es out set := hi
    have hR := ready_ok n es set hn hl hp
    have hle : out.length ≤ n := nodup_lt n out hi.nodup hi.lt
    by_cases hx : readyV n es set = 0#64
    · rw [hx] at hR
      have hd := hi.done hn hp hx
      repeat' (first|refine zS ?_|refine zR ?_|refine zE tab_ok rfl rfl ?_|refine zN ?_|(refine zG rfl rfl (fun _ => ?_) fun _ => ?_)<;>refine zE tab_ok rfl rfl ?_|(refine zC rfl (fun _ => ?_) fun _ => ?_)<;>try (rename_i h; cases h; done)|refine zB ?_|refine zK ?_|refine zZ ⟨_, rfl, ?_⟩)
      refine Sq.callv rfl (hR) ?_
      repeat' (first|refine zS ?_|refine zR ?_|refine zE tab_ok rfl rfl ?_|refine zN ?_|(refine zG rfl rfl (fun _ => ?_) fun _ => ?_)<;>refine zE tab_ok rfl rfl ?_|(refine zC rfl (fun _ => ?_) fun _ => ?_)<;>try (rename_i h; cases h; done)|refine zB ?_|refine zK ?_|refine zZ ⟨_, rfl, ?_⟩)
      · rename_i h2
        have h2 : decide ((((out.map fun k : Nat => T.sc (.int .i64 (k : Int))).length : Nat) : Int) < (n : Int)) = true := h2
        simp only [List.length_map, decide_eq_true_eq] at h2
        rw [if_pos (hc.2 (hd.1 (by omega)))]
        exact ⟨_, rfl⟩
      · rename_i h2
        have h2 : decide ((((out.map fun k : Nat => T.sc (.int .i64 (k : Int))).length : Nat) : Int) < (n : Int)) = false := h2
        simp only [List.length_map, decide_eq_false_iff_not] at h2
        rw [if_neg (fun e => h2 (by have := hd.2 (hc.1 e); omega))]
        exact ⟨_, rfl⟩
    · obtain ⟨hlt, hst⟩ := hi.step hn hp hx
      have hT := tz_ok (readyV n es set)
      generalize readyV n es set = R at *
      generalize Lib.ctz 64 R.toNat = k at *
      repeat' (first|refine zS ?_|refine zR ?_|refine zE tab_ok rfl rfl ?_|refine zN ?_|(refine zG rfl rfl (fun _ => ?_) fun _ => ?_)<;>refine zE tab_ok rfl rfl ?_|(refine zC rfl (fun _ => ?_) fun _ => ?_)<;>try (rename_i h; cases h; done)|refine zB ?_|refine zK ?_|refine zZ ⟨_, rfl, ?_⟩)
      refine Sq.callv rfl (hR) ?_
      repeat' (first|refine zS ?_|refine zR ?_|refine zE tab_ok rfl rfl ?_|refine zN ?_|(refine zG rfl rfl (fun _ => ?_) fun _ => ?_)<;>refine zE tab_ok rfl rfl ?_|(refine zC rfl (fun _ => ?_) fun _ => ?_)<;>try (rename_i h; cases h; done)|refine zB ?_|refine zK ?_|refine zZ ⟨_, rfl, ?_⟩)
      · refine Sq.callv rfl (hT) ?_
        refine zE tab_ok rfl rfl ?_
        refine zN ?_
        refine zS ?_
        have hlen : (out.map fun k : Nat => T.sc (.int .i64 (k : Int))).length + 1 ≤ 1073741824 := by rw [List.length_map]; omega
        refine Tr.drawn ( zD tab_ok rfl rfl <| zD tab_ok rfl rfl <| zD tab_ok rfl rfl <| DSq.two rfl (fun q K hK => Sq.append tab_ok rfl (by simp; rfl) hlen (zN hK)) <| zD tab_ok rfl rfl <| zD tab_ok rfl rfl <| zO rfl (fun q K hK => Sq.shift rfl 1#64 k rfl rfl (by omega) (zN hK)) <| zO rfl (fun q K hK => Sq.bits rfl set (1#64 <<< k) (r := set ||| (1#64 <<< k)) rfl rfl rfl (zN hK)) <| zD tab_ok rfl rfl <| zD tab_ok rfl rfl <| DSq.nil _) mix_ok rfl ?_
        refine Tr.goto ?_
        have hlo : (out ++ [k]).length ≤ n := nodup_lt n _ hst.nodup hst.lt
        rw [List.length_append] at hlo
        refine ⟨rfl, (out ++ [k], _), hst, ?_, ?_⟩
        · show n - (out ++ [k]).length < n - out.length
          rw [List.length_append]; simp at hlo ⊢; omega
        · exact Sub.app (l := [_, _, _, _]) (H := []) ⟨rfl, rfl, congrArg some (congrArg (AV.own _) (by simp)), rfl, trivial⟩ (fun κ v h => nomatch h)
      all_goals
        exfalso
        rename_i h2 _
        have h2 : ((R.toNat : Int) != 0) = false := h2
        have h3 := bv_zero R
        simp only [bne, Bool.not_eq_false'] at h2
        rw [h3, beq_iff_eq] at h2
        exact hx h2
end Go.Lg.Tryz

set_option linter.unusedVariables false
set_option linter.unusedSimpArgs false
namespace Go.Lg.Sem
open Go
def falses : List Bool → Nat
  | [] => 0
  | b :: r => (if b then 0 else 1) + falses r
theorem falses_rep : ∀ n, falses (List.replicate n false) = n
  | 0 => rfl
  | n + 1 => by rw [List.replicate_succ]; simp only [falses]; rw [falses_rep n]; simp; omega
theorem falses_set : ∀ (o : List Bool) (y : Nat), o[y]? = some false → falses (o.set y true) + 1 = falses o
  | b :: r, 0, h => by simp at h; subst h; simp [falses]; omega
  | b :: r, y + 1, h => by
    have := falses_set r y (by simpa using h)
    simp only [List.set_cons_succ, falses]; omega
  | [], y, h => by simp at h
structure FromI (n : Nat) (es : List (Nat × Nat)) (a : Nat) (o : List Bool) (q : List Nat) : Prop where
  len : o.length = n
  sound : ∀ y, o[y]? = some true → EdgeWay es a y
  qlt : ∀ x, x ∈ q → x < n ∧ (x = a ∨ EdgeWay es a x)
  clos : ∀ x, (x = a ∨ o[x]? = some true) → x ∈ q ∨ ∀ y, (x, y) ∈ es → o[y]? = some true
  mu : 2 * falses o + q.length ≤ 2 * n + 1
structure InI (n : Nat) (es : List (Nat × Nat)) (a x : Nat) (m0 : Nat) (o : List Bool) (q : List Nat) (k : Nat) : Prop where
  len : o.length = n
  sound : ∀ y, o[y]? = some true → EdgeWay es a y
  qlt : ∀ x, x ∈ q → x < n ∧ (x = a ∨ EdgeWay es a x)
  xr : x = a ∨ EdgeWay es a x
  clos : ∀ z, (z = a ∨ o[z]? = some true) → z ∈ q ∨ (z = x ∧ ∀ j y, j < k → es[j]? = some (x, y) → o[y]? = some true) ∨ ∀ y, (z, y) ∈ es → o[y]? = some true
  mu : 2 * falses o + q.length < m0
  m0 : m0 ≤ 2 * n + 1
  kle : k ≤ es.length
theorem FromI.init {n : Nat} {es : List (Nat × Nat)} {a : Nat} (ha : a < n) : FromI n es a (List.replicate n false) [a] := by
  have hno : ∀ y, (List.replicate n false)[y]? ≠ some true := fun y h => by
    have := List.mem_of_getElem? h
    have := List.eq_of_mem_replicate this
    cases this
  refine ⟨by simp, fun y h => absurd h (hno y), fun x hx => by simp at hx; subst hx; exact ⟨ha, .inl rfl⟩, fun x hx => ?_, by rw [falses_rep]; simp⟩
  rcases hx with rfl | h
  · exact .inl (by simp)
  · exact absurd h (hno x)
theorem FromI.pop {n : Nat} {es : List (Nat × Nat)} {a x : Nat} {o : List Bool} {q : List Nat} (h : FromI n es a o (x :: q)) : InI n es a x (2 * falses o + (x :: q).length) o q 0 := by
  refine ⟨h.len, h.sound, fun y hy => h.qlt y (List.mem_cons_of_mem _ hy), (h.qlt x (List.mem_cons_self ..)).2, fun z hz => ?_, by simp, h.mu, Nat.zero_le _⟩
  rcases h.clos z hz with h1 | h1
  · rcases List.mem_cons.1 h1 with rfl | h1
    · exact .inr (.inl ⟨rfl, fun j y hj => absurd hj (Nat.not_lt_zero _)⟩)
    · exact .inl h1
  · exact .inr (.inr h1)
theorem InI.skip {n : Nat} {es : List (Nat × Nat)} {a x m0 : Nat} {o : List Bool} {q : List Nat} {k u v : Nat} (h : InI n es a x m0 o q k) (hk : es[k]? = some (u, v)) (hs : u = x → o[v]? = some true) : InI n es a x m0 o q (k + 1) := by
  refine { h with clos := fun z hz => ?_, kle := ?_ }
  · rcases h.clos z hz with h1 | ⟨h1, h2⟩ | h1
    · exact .inl h1
    · refine .inr (.inl ⟨h1, fun j y hj hy => ?_⟩)
      rcases Nat.lt_succ_iff_lt_or_eq.1 hj with h3 | rfl
      · exact h2 j y h3 hy
      · rw [hk] at hy
        injection hy with hy; injection hy with h4 h5
        subst h4; subst h5; exact hs rfl
    · exact .inr (.inr h1)
  · rcases Nat.lt_or_ge k es.length with h | h
    · omega
    · rw [List.getElem?_eq_none h] at hk; cases hk
theorem InI.add {n : Nat} {es : List (Nat × Nat)} {a x m0 : Nat} {o : List Bool} {q : List Nat} {k v : Nat} (h : InI n es a x m0 o q k) (hk : es[k]? = some (x, v)) (hv : o[v]? = some false) : InI n es a x m0 (o.set v true) (q ++ [v]) (k + 1) := by
  have hlt : v < o.length := by
    rcases Nat.lt_or_ge v o.length with h | h
    · exact h
    · rw [List.getElem?_eq_none h] at hv; cases hv
  have hat : ∀ y, (o.set v true)[y]? = if v = y then some true else o[y]? := by
    intro y
    rw [List.getElem?_set]
    by_cases e : v = y
    · subst e; simp [hlt]
    · simp [e]
  have hrv : EdgeWay es a v := by
    have he : (x, v) ∈ es := List.mem_of_getElem? hk
    rcases h.xr with rfl | hr
    · exact .one he
    · exact .snoc hr he
  have keep : ∀ y, o[y]? = some true → (o.set v true)[y]? = some true := fun y hy => by rw [hat]; split <;> first | rfl | exact hy
  have hf := falses_set o v hv
  refine ⟨by rw [List.length_set]; exact h.len, fun y hy => ?_, fun y hy => ?_, h.xr, fun z hz => ?_, ?_, h.m0, ?_⟩
  · rw [hat] at hy
    split at hy
    · rename_i e; subst e; exact hrv
    · exact h.sound y hy
  · rcases List.mem_append.1 hy with hy | hy
    · exact h.qlt y hy
    · simp at hy; subst hy; exact ⟨by rw [← h.len]; exact hlt, .inr hrv⟩
  · have hz' : z = v ∨ (z = a ∨ o[z]? = some true) := by
      rcases hz with rfl | hz
      · exact .inr (.inl rfl)
      · rw [hat] at hz
        split at hz
        · rename_i e; exact .inl e.symm
        · exact .inr (.inr hz)
    rcases hz' with rfl | hz'
    · exact .inl (by simp)
    · rcases h.clos z hz' with h1 | ⟨h1, h2⟩ | h1
      · exact .inl (List.mem_append_left _ h1)
      · refine .inr (.inl ⟨h1, fun j y hj hy => ?_⟩)
        rcases Nat.lt_succ_iff_lt_or_eq.1 hj with h3 | rfl
        · exact keep y (h2 j y h3 hy)
        · rw [hk] at hy
          injection hy with hy; injection hy with _ h5
          subst h5; rw [hat, if_pos rfl]
      · exact .inr (.inr fun y hy => keep y (h1 y hy))
  · have := h.mu
    rw [List.length_append]; simp; omega
  · rcases Nat.lt_or_ge k es.length with h | h
    · omega
    · rw [List.getElem?_eq_none h] at hk; cases hk
theorem InI.done {n : Nat} {es : List (Nat × Nat)} {a x m0 : Nat} {o : List Bool} {q : List Nat} (h : InI n es a x m0 o q es.length) : FromI n es a o q := by
  refine ⟨h.len, h.sound, h.qlt, fun z hz => ?_, by have := h.mu; have := h.m0; omega⟩
  rcases h.clos z hz with h1 | ⟨rfl, h2⟩ | h1
  · exact .inl h1
  · refine .inr fun y hy => ?_
    obtain ⟨j, hj⟩ := List.mem_iff_getElem?.1 hy
    refine h2 j y ?_ hj
    rcases Nat.lt_or_ge j es.length with h | h
    · exact h
    · rw [List.getElem?_eq_none h] at hj; cases hj
  · exact .inr h1
theorem FromI.reach {n : Nat} {es : List (Nat × Nat)} {a : Nat} {o : List Bool} (h : FromI n es a o []) (y : Nat) : o[y]? = some true ↔ EdgeWay es a y := by
  refine ⟨h.sound y, fun hr => ?_⟩
  have cl : ∀ x, (x = a ∨ o[x]? = some true) → ∀ y, (x, y) ∈ es → o[y]? = some true := fun x hx => (h.clos x hx).resolve_left (by simp)
  induction hr with
  | one e => exact cl _ (.inl rfl) _ e
  | snoc _ e ih => exact cl _ (.inr ih) _ e
end Go.Lg.Sem

set_option linter.unusedVariables false
set_option linter.unusedSimpArgs false
namespace Go.Lg.Tryz
open Go Go.Proofs Go.RowKit Go.Lib Go.Lg.Sem
abbrev boolT (b : Bool) : T := .sc (.bool b)
abbrev natT (k : Nat) : T := .sc (.int .i64 (k : Int))
theorem From_ok (n : Nat) (es : List (Nat × Nat)) (a : Nat) (ha : a < n) (hn : n ≤ 64) (hl : es.length ≤ 4096) (hp : ∀ p, p ∈ es → p.1 < n ∧ p.2 < n) :
    Fn Tryz.prog Gw 64 [.tr (grT n es), int a] [] (fun x => ∃ o : List Bool, x = .tr (.ls (o.map boolT)) ∧ o.length = n ∧ ∀ y, o[y]? = some true ↔ EdgeWay es a y) := by
  refine Fn.of tab_ok Tryz.func64 rfl (by decide) (by simp [Tryz.f64]) rfl (fun κ v h => by cases h) Gw.below ?_
  repeat' (first|refine zS ?_|refine zR ?_|refine zE tab_ok rfl rfl ?_|refine zN ?_|(refine zG rfl rfl (fun _ => ?_) fun _ => ?_)<;>refine zE tab_ok rfl rfl ?_|(refine zC rfl (fun _ => ?_) fun _ => ?_)<;>try (rename_i h; cases h; done)|refine zB ?_|refine zK ?_|refine zZ ⟨_, rfl, ?_⟩)
  refine Sq.make tab_ok rfl rfl (by omega) (by omega) (by omega) rfl ?_
  refine zE tab_ok rfl rfl ?_
  refine zN ?_
  repeat' (first|refine zS ?_|refine zR ?_|refine zE tab_ok rfl rfl ?_|refine zN ?_|(refine zG rfl rfl (fun _ => ?_) fun _ => ?_)<;>refine zE tab_ok rfl rfl ?_|(refine zC rfl (fun _ => ?_) fun _ => ?_)<;>try (rename_i h; cases h; done)|refine zB ?_|refine zK ?_|refine zZ ⟨_, rfl, ?_⟩)
  refine Tr.loopS (ι := List Bool × List Nat) (fun i => [(.s 1, int a), (.s 2, .ptr (.l 2) 0), (.l 2, .blk 41 [int n, .tr (.ls (es.map edT))]), (.s 5, .sl (.l 12) n n), (.l 12, .blk 4 ((i.1.map boolT).map .tr)), (.s 6, .own 3 (i.2.map natT))]) (fun i => 2 * falses i.1 + i.2.length) (fun i => FromI n es a i.1 i.2)
    (List.replicate n false, [a]) (FromI.init ha) (Sub.app (l := [_, _, _, _, _, _]) (H := []) ⟨rfl, rfl, rfl, rfl, ?_, rfl, trivial⟩ (fun κ v h => nomatch h)) ?_
  · show some (AV.blk _ (List.replicate n _)) = some (AV.blk _ (((List.replicate n false).map boolT).map .tr))
    rw [List.map_replicate, List.map_replicate]
  rintro ⟨o, q⟩ hi
  have hi : FromI n es a o q := hi
  repeat' (first|refine zS ?_|refine zR ?_|refine zE tab_ok rfl rfl ?_|refine zN ?_|(refine zG rfl rfl (fun _ => ?_) fun _ => ?_)<;>refine zE tab_ok rfl rfl ?_|(refine zC rfl (fun _ => ?_) fun _ => ?_)<;>try (rename_i h; cases h; done)|refine zB ?_|refine zK ?_|refine zZ ⟨_, rfl, ?_⟩)
  · rename_i h0
    cases q with
    | nil => exfalso; have h0 : decide (((([] : List Nat).map natT).length : Int) > 0) = true := h0; simp at h0
    | cons x q =>
    have hx := (hi.qlt x (List.mem_cons_self ..)).1
    have hin := hi.pop
    have hm0 : 2 * falses o + (x :: q).length ≤ 2 * n + 1 := hi.mu
    generalize 2 * falses o + (x :: q).length = m0 at *
    refine zI (x := natT x) tab_ok rfl (by omega) (rfl) rfl ?_
    refine zE tab_ok rfl rfl ?_
    refine zE tab_ok rfl rfl ?_
    refine zN ?_
    refine zS ?_
    refine zR ?_
    refine Sq.take rfl ?_
    refine Sq.tailO (lo := .at 1) tab_ok rfl (by simp [Bd.lo]) (by simp [Bd.lo]; omega) ?_
    refine zE tab_ok rfl rfl ?_
    refine zN ?_
    repeat' (first|refine zS ?_|refine zR ?_|refine zE tab_ok rfl rfl ?_|refine zN ?_|(refine zG rfl rfl (fun _ => ?_) fun _ => ?_)<;>refine zE tab_ok rfl rfl ?_|(refine zC rfl (fun _ => ?_) fun _ => ?_)<;>try (rename_i h; cases h; done)|refine zB ?_|refine zK ?_|refine zZ ⟨_, rfl, ?_⟩)
    refine Tr.loopS (ι := List Bool × List Nat × Nat) (fun i => [(.s 1, int a), (.s 2, .ptr (.l 2) 0), (.l 2, .blk 41 [int n, .tr (.ls (es.map edT))]), (.s 5, .sl (.l 12) n n), (.l 12, .blk 4 ((i.1.map boolT).map .tr)), (.s 6, .own 3 (i.2.1.map natT)), (.s 7, int x), (.s 8, int i.2.2)]) (fun i => es.length - i.2.2) (fun i => InI n es a x m0 i.1 i.2.1 i.2.2)
      (o, q, 0) hin (Sub.app (l := [_, _, _, _, _, _, _, _]) (H := []) ⟨rfl, rfl, rfl, rfl, rfl, rfl, rfl, rfl, trivial⟩ (fun κ v h => nomatch h)) ?_
    rintro ⟨o, q, k⟩ hj
    have hj : InI n es a x m0 o q k := hj
    repeat' (first|refine zS ?_|refine zR ?_|refine zE tab_ok rfl rfl ?_|refine zN ?_|(refine zG rfl rfl (fun _ => ?_) fun _ => ?_)<;>refine zE tab_ok rfl rfl ?_|(refine zC rfl (fun _ => ?_) fun _ => ?_)<;>try (rename_i h; cases h; done)|refine zB ?_|refine zK ?_|refine zZ ⟨_, rfl, ?_⟩)
    · rename_i h2
      have h2 : decide ((k : Int) < ((es.map edT).length : Int)) = true := h2
      have hlt : k < es.length := by simp only [List.length_map, decide_eq_true_eq] at h2; omega
      obtain ⟨⟨u, v⟩, hpk⟩ : ∃ p, es[k]? = some p := ⟨_, List.getElem?_eq_getElem hlt⟩
      have hpe : (es.map edT)[((k : Nat) : Int).toNat]? = some (edT (u, v)) := by simp [hpk]
      obtain ⟨h1, h3⟩ := hp _ (List.mem_of_getElem? hpk)
      have h3 : v < n := h3
      obtain ⟨b, hb⟩ : ∃ b, o[v]? = some b := ⟨_, List.getElem?_eq_getElem (by rw [hj.len]; omega)⟩
      have hbe : ((o.map boolT).map AV.tr)[((v : Nat) : Int).toNat * 1]? = some (bool b) := by simp [hb]
      refine zI (x := edT (u, v)) tab_ok rfl (by omega) (hpe) rfl ?_
      refine Sq.indexAE tab_ok rfl (by omega) (by omega) ?_
      repeat' (first|refine zS ?_|refine zR ?_|refine zE tab_ok rfl rfl ?_|refine zN ?_|(refine zG rfl rfl (fun _ => ?_) fun _ => ?_)<;>refine zE tab_ok rfl rfl ?_|(refine zC rfl (fun _ => ?_) fun _ => ?_)<;>try (rename_i h; cases h; done)|refine zB ?_|refine zK ?_|refine zZ ⟨_, rfl, ?_⟩)
      refine zI (x := edT (u, v)) tab_ok rfl (by omega) (hpe) rfl ?_
      refine Sq.indexAE tab_ok rfl (by omega) (by omega) ?_
      repeat' (first|refine zS ?_|refine zR ?_|refine zE tab_ok rfl rfl ?_|refine zN ?_|(refine zG rfl rfl (fun _ => ?_) fun _ => ?_)<;>refine zE tab_ok rfl rfl ?_|(refine zC rfl (fun _ => ?_) fun _ => ?_)<;>try (rename_i h; cases h; done)|refine zB ?_|refine zK ?_|refine zZ ⟨_, rfl, ?_⟩)
      · rename_i hux
        have hux : ((u : Int) == (x : Int)) = true := hux
        have hux : u = x := by rw [beq_iff_eq] at hux; omega
        subst hux
        refine Sq.indexS tab_ok rfl (by omega) (by omega) ?_
        refine Sq.loadS (v := bool b) tab_ok rfl hbe ?_
        cases b
        · repeat' (first|refine zS ?_|refine zR ?_|refine zE tab_ok rfl rfl ?_|refine zN ?_|(refine zG rfl rfl (fun _ => ?_) fun _ => ?_)<;>refine zE tab_ok rfl rfl ?_|(refine zC rfl (fun _ => ?_) fun _ => ?_)<;>try (rename_i h; cases h; done)|refine zB ?_|refine zK ?_|refine zZ ⟨_, rfl, ?_⟩)
          refine Sq.indexS tab_ok rfl (by omega) (by omega) ?_
          refine Sq.storeS tab_ok rfl (by rw [List.length_map, List.length_map, hj.len]; omega) ?_
          repeat' (first|refine zS ?_|refine zR ?_|refine zE tab_ok rfl rfl ?_|refine zN ?_|(refine zG rfl rfl (fun _ => ?_) fun _ => ?_)<;>refine zE tab_ok rfl rfl ?_|(refine zC rfl (fun _ => ?_) fun _ => ?_)<;>try (rename_i h; cases h; done)|refine zB ?_|refine zK ?_|refine zZ ⟨_, rfl, ?_⟩)
          refine Sq.append tab_ok rfl (fun y hy => by simp only [List.mem_singleton] at hy; subst hy; rfl) (by have h1 := hj.mu; have h2 := hj.m0; simp; omega) ?_
          repeat' (first|refine zS ?_|refine zR ?_|refine zE tab_ok rfl rfl ?_|refine zN ?_|(refine zG rfl rfl (fun _ => ?_) fun _ => ?_)<;>refine zE tab_ok rfl rfl ?_|(refine zC rfl (fun _ => ?_) fun _ => ?_)<;>try (rename_i h; cases h; done)|refine zB ?_|refine zK ?_|refine zZ ⟨_, rfl, ?_⟩)
          have hset : ((o.map boolT).map AV.tr).set (((v : Nat) : Int).toNat * 1) (bool true) = ((o.set v true).map boolT).map AV.tr := by
            rw [Int.toNat_natCast, Nat.mul_one, List.map_set, List.map_set]
          exact ⟨(o.set v true, q ++ [v], k + 1), hj.add hpk hb, by show es.length - (k + 1) < es.length - k; omega, Sub.app (l := [_, _, _, _, _, _, _, _]) (H := []) ⟨rfl, rfl, rfl, rfl, congrArg some (congrArg (AV.blk _) hset), congrArg some (congrArg (AV.own _) (by simp)), rfl, congrArg some (wrapz (by (try dsimp only); omega) (by (try dsimp only); omega) (by (try dsimp only); omega)), trivial⟩ (fun κ v h => nomatch h)⟩
        · repeat' (first|refine zS ?_|refine zR ?_|refine zE tab_ok rfl rfl ?_|refine zN ?_|(refine zG rfl rfl (fun _ => ?_) fun _ => ?_)<;>refine zE tab_ok rfl rfl ?_|(refine zC rfl (fun _ => ?_) fun _ => ?_)<;>try (rename_i h; cases h; done)|refine zB ?_|refine zK ?_|refine zZ ⟨_, rfl, ?_⟩)
          exact ⟨(o, q, k + 1), hj.skip hpk (fun _ => hb), by show es.length - (k + 1) < es.length - k; omega, Sub.app (l := [_, _, _, _, _, _, _, _]) (H := []) ⟨rfl, rfl, rfl, rfl, rfl, rfl, rfl, congrArg some (wrapz (by (try dsimp only); omega) (by (try dsimp only); omega) (by (try dsimp only); omega)), trivial⟩ (fun κ v h => nomatch h)⟩
      · rename_i hux _
        have hux : ((u : Int) == (x : Int)) = false := hux
        exact ⟨(o, q, k + 1), hj.skip hpk (fun e => by subst e; simp at hux), by show es.length - (k + 1) < es.length - k; omega, Sub.app (l := [_, _, _, _, _, _, _, _]) (H := []) ⟨rfl, rfl, rfl, rfl, rfl, rfl, rfl, congrArg some (wrapz (by (try dsimp only); omega) (by (try dsimp only); omega) (by (try dsimp only); omega)), trivial⟩ (fun κ v h => nomatch h)⟩
    · rename_i h2
      have h2 : decide ((k : Int) < ((es.map edT).length : Int)) = false := h2
      have hge : k = es.length := by simp only [List.length_map, decide_eq_false_iff_not] at h2; have := hj.kle; omega
      subst hge
      refine Tr.exit ?_
      repeat' (first|refine zS ?_|refine zR ?_|refine zE tab_ok rfl rfl ?_|refine zN ?_|(refine zG rfl rfl (fun _ => ?_) fun _ => ?_)<;>refine zE tab_ok rfl rfl ?_|(refine zC rfl (fun _ => ?_) fun _ => ?_)<;>try (rename_i h; cases h; done)|refine zB ?_|refine zK ?_|refine zZ ⟨_, rfl, ?_⟩)
      exact ⟨(o, q), hj.done, hj.mu, Sub.app (l := [_, _, _, _, _, _]) (H := []) ⟨rfl, rfl, rfl, rfl, rfl, rfl, trivial⟩ (fun κ v h => nomatch h)⟩
  · rename_i h0
    cases q with
    | cons x q => exfalso; have h0 : decide (((((x :: q) : List Nat).map natT).length : Int) > 0) = false := h0; simp at h0
    | nil =>
    refine Tr.exit ?_
    have hlen := hi.len
    have hre := hi.reach
    refine Tr.turn (fun Γ a w h => RelX.freeze1 (xs := o.map boolT) (cap := n) h (s := 5) (κ := .l 12) ?_ rfl rfl ?_) ?_
    · show some (AV.sl _ _ _) = some (AV.sl _ _ _)
      rw [List.length_map, hlen]
    · intro y hy
      obtain ⟨v, _, rfl⟩ := List.mem_map.1 hy
      rfl
    repeat' (first|refine zS ?_|refine zR ?_|refine zE tab_ok rfl rfl ?_|refine zN ?_|(refine zG rfl rfl (fun _ => ?_) fun _ => ?_)<;>refine zE tab_ok rfl rfl ?_|(refine zC rfl (fun _ => ?_) fun _ => ?_)<;>try (rename_i h; cases h; done)|refine zB ?_|refine zK ?_|refine zZ ⟨_, rfl, ?_⟩)
    exact ⟨o, rfl, hlen, hre⟩
theorem Circle_ok (n : Nat) (es : List (Nat × Nat)) (hn : n ≤ 64) (hl : es.length ≤ 4096) (hp : ∀ p, p ∈ es → p.1 < n ∧ p.2 < n) (cyc : Bool) (hc : cyc = true ↔ CycP n es) :
    Fn Tryz.prog Gw 35 [.tr (grT n es)] [] (· = bool cyc) := by
  refine Fn.of tab_ok Tryz.func35 rfl (by decide) (by simp [Tryz.f35]) rfl (fun κ v h => by cases h) Gw.below ?_
  repeat' (first|refine zS ?_|refine zR ?_|refine zE tab_ok rfl rfl ?_|refine zN ?_|(refine zG rfl rfl (fun _ => ?_) fun _ => ?_)<;>refine zE tab_ok rfl rfl ?_|(refine zC rfl (fun _ => ?_) fun _ => ?_)<;>try (rename_i h; cases h; done)|refine zB ?_|refine zK ?_|refine zZ ⟨_, rfl, ?_⟩)
  refine Tr.loopS (fun a : Nat => [(.s 1, .ptr (.l 1) 0), (.l 1, .blk 41 [int n, .tr (.ls (es.map edT))]), (.s 3, int a)]) (fun a => n - a) (fun a => a ≤ n ∧ ∀ b, b < a → ¬ EdgeWay es b b)
    0 ⟨by omega, by intro b hb; omega⟩ (Sub.app (l := [_, _, _]) (H := []) ⟨rfl, rfl, rfl, trivial⟩ (fun κ v h => nomatch h)) ?_
  rintro a ⟨ha, hno⟩
  repeat' (first|refine zS ?_|refine zR ?_|refine zE tab_ok rfl rfl ?_|refine zN ?_|(refine zG rfl rfl (fun _ => ?_) fun _ => ?_)<;>refine zE tab_ok rfl rfl ?_|(refine zC rfl (fun _ => ?_) fun _ => ?_)<;>try (rename_i h; cases h; done)|refine zB ?_|refine zK ?_|refine zZ ⟨_, rfl, ?_⟩)
  · rename_i h2
    have hlt : a < n := by have := of_decide_eq_true h2; omega
    refine zL rfl (From_ok n es a hlt hn hl hp) ?_
    rintro _ ⟨o, rfl, hol, ho⟩
    obtain ⟨b, hb⟩ : ∃ b, o[a]? = some b := ⟨_, List.getElem?_eq_getElem (by omega)⟩
    have hbe : (o.map boolT)[((a : Nat) : Int).toNat]? = some (boolT b) := by simp [hb]
    refine zE tab_ok rfl rfl ?_
    refine zI (x := boolT b) tab_ok rfl (by omega) (hbe) rfl ?_
    refine zE tab_ok rfl rfl ?_
    cases b
    · repeat' (first|refine zS ?_|refine zR ?_|refine zE tab_ok rfl rfl ?_|refine zN ?_|(refine zG rfl rfl (fun _ => ?_) fun _ => ?_)<;>refine zE tab_ok rfl rfl ?_|(refine zC rfl (fun _ => ?_) fun _ => ?_)<;>try (rename_i h; cases h; done)|refine zB ?_|refine zK ?_|refine zZ ⟨_, rfl, ?_⟩)
      exact ⟨a + 1, ⟨by omega, fun b hb' => by
        rcases Nat.lt_succ_iff_lt_or_eq.1 hb' with h | rfl
        · exact hno b h
        · intro hr; rw [(ho b).2 hr] at hb; cases hb⟩, by omega, Sub.app (l := [_, _, _]) (H := []) ⟨rfl, rfl, congrArg some (wrapz (by omega) (by omega) (by omega)), trivial⟩ (fun κ v h => nomatch h)⟩
    · have : cyc = true := hc.2 ⟨a, hlt, (ho a).1 hb⟩
      subst this
      repeat' (first|refine zS ?_|refine zR ?_|refine zE tab_ok rfl rfl ?_|refine zN ?_|(refine zG rfl rfl (fun _ => ?_) fun _ => ?_)<;>refine zE tab_ok rfl rfl ?_|(refine zC rfl (fun _ => ?_) fun _ => ?_)<;>try (rename_i h; cases h; done)|refine zB ?_|refine zK ?_|refine zZ ⟨_, rfl, ?_⟩)
      rfl
  · rename_i h2
    have hge : n ≤ a := by have := of_decide_eq_false h2; omega
    have : cyc = false := by
      rw [← Bool.not_eq_true]
      intro h
      obtain ⟨b, hb, hr⟩ := hc.1 h
      exact hno b (by omega) hr
    subst this
    refine Tr.exit ?_
    repeat' (first|refine zS ?_|refine zR ?_|refine zE tab_ok rfl rfl ?_|refine zN ?_|(refine zG rfl rfl (fun _ => ?_) fun _ => ?_)<;>refine zE tab_ok rfl rfl ?_|(refine zC rfl (fun _ => ?_) fun _ => ?_)<;>try (rename_i h; cases h; done)|refine zB ?_|refine zK ?_|refine zZ ⟨_, rfl, ?_⟩)
    rfl
end Go.Lg.Tryz

set_option linter.unusedVariables false
set_option linter.unusedSimpArgs false
namespace Go.Lg
open Go Go.RowKit
section
variable {P : Program} {G : Env} {n : Nat} {tab : Tab} {m : Store}
def evReIm (n : Nat) (ops : List Oper) (o : Oper) (m : Store) : Option (Bool × Nat × Nat × Nat) := match o.op, o.dst, gOk m ops o.guard with
  | .call c, some d, true => match Nat.blt d n, c.callee, c.args.toList with
    | true, .builtin .real, [x] => match opV m x with
      | some (.tr (.sc (.complex .f64 a b))) => some (true, a, b, d)
      | _ => none
    | true, .builtin .imag, [x] => match opV m x with
      | some (.tr (.sc (.complex .f64 a b))) => some (false, a, b, d)
      | _ => none
    | _, _, _ => none
  | _, _, _ => none
theorem Sq.reim {ops l : List Oper} {o : Oper} {r : Bool} {x y : Nat} {d : Nat} {K : Store → Prop} (h : evReIm n ops o m = some (r, x, y, d)) (k : Sq P G n ops l ((.s d, .tr (.sc (.float .f64 (if r then x else y)))) :: m) K) : Sq P G n ops (o :: l) m K := by
  obtain ⟨dst, op', type, pos, after, guard⟩ := o
  unfold evReIm at h
  simp only at h
  split at h
  · rename_i c d' hgd
    split at h
    · rename_i ox hlt hcal hargs
      split at h
      · rename_i a b hx
        simp only [Option.some.injEq, Prod.mk.injEq] at h
        obtain ⟨rfl, rfl, rfl, rfl⟩ := h
        refine Sq.do hgd (fun Γ M Ow ac w hrr => ?_) k
        obtain ⟨q1, hq1⟩ := opV_ok hx hrr
        refine ⟨_, w, ?_, M, Ow, hrr.put (Nat.lt_of_succ_le (Nat.le_of_ble_eq_true hlt)) (.tr _ _ (.sc _ rfl))⟩
        obtain ⟨cal, args, argT⟩ := c
        simp only at hcal hargs
        subst hcal
        have : args = #[ox] := by apply Array.toList_inj.1; simpa using hargs
        subst this
        simp [execOp, resolve, invoke, builtin, run_real, (sc_eval (Γ := Γ) hq1).1]
      · cases h
    · rename_i ox hlt hcal hargs
      split at h
      · rename_i a b hx
        simp only [Option.some.injEq, Prod.mk.injEq] at h
        obtain ⟨rfl, rfl, rfl, rfl⟩ := h
        refine Sq.do hgd (fun Γ M Ow ac w hrr => ?_) k
        obtain ⟨q1, hq1⟩ := opV_ok hx hrr
        refine ⟨_, w, ?_, M, Ow, hrr.put (Nat.lt_of_succ_le (Nat.le_of_ble_eq_true hlt)) (.tr _ _ (.sc _ rfl))⟩
        obtain ⟨cal, args, argT⟩ := c
        simp only at hcal hargs
        subst hcal
        have : args = #[ox] := by apply Array.toList_inj.1; simpa using hargs
        subst this
        simp [execOp, resolve, invoke, builtin, run_imag, (sc_eval (Γ := Γ) hq1).1]
      · cases h
    · cases h
  · cases h
def evF2i (n : Nat) (ops : List Oper) (o : Oper) (m : Store) : Option (TypeId × TypeId × Nat × Nat) := match o.op, o.dst, gOk m ops o.guard with
  | .convert s t x, some d, true => match Nat.blt d n, opV m x with
    | true, some (.tr (.sc (.float .f64 b))) => some (s, t, b, d)
    | _, _ => none
  | _, _, _ => none
theorem Sq.f2i {ops l : List Oper} {o : Oper} {s t : TypeId} {b d : Nat} {v : Int} {K : Store → Prop} (h : evF2i n ops o m = some (s, t, b, d)) (hs : (P.underlying s).isSome = true) (ht : P.underlying t = some (.int .i64)) (hv : floatToIntVal .f64 b .i64 = some v)
    (k : Sq P G n ops l ((.s d, .tr (.sc (.int .i64 v))) :: m) K) : Sq P G n ops (o :: l) m K := by
  obtain ⟨dst, op', type, pos, after, guard⟩ := o
  unfold evF2i at h
  simp only at h
  split at h
  · rename_i s0 t0 ox d' hgd
    split at h
    · rename_i q hlt hx
      simp only [Option.some.injEq, Prod.mk.injEq] at h
      obtain ⟨rfl, rfl, rfl, rfl⟩ := h
      refine Sq.do hgd (fun Γ M Ow a w hrr => ?_) k
      obtain ⟨q1, hq1⟩ := opV_ok hx hrr
      refine ⟨_, w, ?_, M, Ow, hrr.put (Nat.lt_of_succ_le (Nat.le_of_ble_eq_true hlt)) (.tr _ _ (.sc _ rfl))⟩
      simp [execOp, (sc_eval (Γ := Γ) hq1).1, run_convert_float_int w s0 t0 .f64 .i64 _ _ hs ht hv]
    · cases h
  · cases h
def fcmpB (op : BinOp) (x y : Nat) : Option Bool := match op with
  | .eql => some (FloatKind.f64.format.order x y == some .eq)
  | .neq => some (FloatKind.f64.format.order x y != some .eq)
  | .lss => some (FloatKind.f64.format.order x y == some .lt)
  | .leq => some (FloatKind.f64.format.order x y == some .lt || FloatKind.f64.format.order x y == some .eq)
  | .gtr => some (FloatKind.f64.format.order x y == some .gt)
  | .geq => some (FloatKind.f64.format.order x y == some .gt || FloatKind.f64.format.order x y == some .eq)
  | _ => none
def evFcmp (n : Nat) (ops : List Oper) (o : Oper) (m : Store) : Option (BinOp × Nat × Nat × Nat) := match o.op, o.dst, gOk m ops o.guard with
  | .binOp op _ x y _, some d, true => match Nat.blt d n, opV m x, opV m y with
    | true, some (.tr (.sc (.float .f64 a))), some (.tr (.sc (.float .f64 b))) => some (op, a, b, d)
    | _, _, _ => none
  | _, _, _ => none
theorem Sq.fcmp {ops l : List Oper} {o : Oper} {op : BinOp} {x y d : Nat} {b : Bool} {K : Store → Prop} (h : evFcmp n ops o m = some (op, x, y, d)) (hb : fcmpB op x y = some b) (k : Sq P G n ops l ((.s d, .tr (.sc (.bool b))) :: m) K) : Sq P G n ops (o :: l) m K := by
  obtain ⟨dst, op', type, pos, after, guard⟩ := o
  unfold evFcmp at h
  simp only at h
  split at h
  · rename_i op0 ty ox oy ty' d' hgd
    split at h
    · rename_i a b hlt hx hy
      simp only [Option.some.injEq, Prod.mk.injEq] at h
      obtain ⟨rfl, rfl, rfl, rfl⟩ := h
      refine Sq.do hgd (fun Γ M Ow a w hrr => ?_) k
      obtain ⟨q1, hq1⟩ := opV_ok hx hrr
      obtain ⟨q2, hq2⟩ := opV_ok hy hrr
      refine ⟨_, w, ?_, M, Ow, hrr.put (Nat.lt_of_succ_le (Nat.le_of_ble_eq_true hlt)) (.tr _ _ (.sc _ rfl))⟩
      unfold fcmpB at hb
      split at hb <;> first
        | (cases hb; done)
        | (obtain rfl := Option.some.inj hb
           simp [execOp, (sc_eval (Γ := Γ) hq1).1, (sc_eval (Γ := Γ) hq2).1, eqGuard, binOp_float_cmp_eql, binOp_float_cmp_neq, binOp_float_cmp_lss, binOp_float_cmp_leq, binOp_float_cmp_gtr, binOp_float_cmp_geq])
    · cases h
  · cases h
def evExt (n : Nat) (ops : List Oper) (o : Oper) (m : Store) : Option (FuncId × Value × Nat) := match o.op, o.dst, gOk m ops o.guard with
  | .call ⟨.value (.func f), ⟨[x]⟩, _⟩, some d, true => match Nat.blt d n, opV m x with
    | true, some (.tr (.sc c)) => some (f, c, d)
    | _, _ => none
  | _, _, _ => none
theorem Sq.ext {ops l : List Oper} {o : Oper} {f : FuncId} {fn : Func} {e : Array Value → Sem Value} {c u : Value} {d : Nat} {K : Store → Prop} (h : evExt n ops o m = some (f, c, d)) (hf : P.funcs[f]? = some fn) (hname : (fn.name == "runtime.NumGoroutine") = false) (hb : fn.body.isNone = true)
    (hn : Extern.findNext fn = none) (he : Extern.find fn = some e) (hr : ∀ w, (e #[c]).run P w = .ok u w) (h1 : u.oneCell' = true) (k : Sq P G n ops l ((.s d, .tr (.sc u)) :: m) K) : Sq P G n ops (o :: l) m K := by
  obtain ⟨dst, op', type, pos, after, guard⟩ := o
  unfold evExt at h
  simp only at h
  split at h
  · rename_i f0 ox ats d' hgd
    split at h
    · rename_i c0 hlt hx
      simp only [Option.some.injEq, Prod.mk.injEq] at h
      obtain ⟨rfl, rfl, rfl⟩ := h
      refine Sq.do hgd (fun Γ M Ow a w hrr => ?_) k
      obtain ⟨q1, hq1⟩ := opV_ok hx hrr
      refine ⟨u, w, ?_, M, Ow, hrr.put (Nat.lt_of_succ_le (Nat.le_of_ble_eq_true hlt)) (.tr _ _ (.sc _ h1))⟩
      have hfe : a.eval (.func f0) = .func (.func f0) #[] #[] := rfl
      have hcall : (callFunc f0 #[c0]).run P w = .ok (.value u) w := by rw [run_callFunc_extern hf hname hb hn he, hr]; rfl
      simp [execOp, resolve, Deferred.ofValue, hfe, (sc_eval (Γ := Γ) hq1).1, invoke, hcall]
    · cases h
  · cases h
theorem Tr.condC {b : Bool} {x y : Code} {Q : Exit → Store → Prop} (h : Tr P G n (if b then x else y) m Q) : Tr P G n (.cond (.const (.bool b)) x y) m Q := by
  intro Γ hΓ a w hr
  cases b with
  | true => exact wpIn_cond rfl (h Γ hΓ a w hr)
  | false => exact wpIn_cond rfl (h Γ hΓ a w hr)
end
end Go.Lg

set_option linter.unusedVariables false
set_option linter.unusedSimpArgs false
namespace Go.Lg.Sem
open Go
def okF (v : Int) : Bool :=
  fcmpB .geq (floatOfInt .f64 v) 0 == some (decide (0 ≤ v)) && fcmpB .leq (floatOfInt .f64 v) 4697254411347427328 == some true &&
  (match FloatKind.f64.decode (floatOfInt .f64 v) with
    | .nan _ _ => false
    | d => FloatKind.f64.encode (d.integral .zero) == floatOfInt .f64 v) &&
  fcmpB .eql (floatOfInt .f64 v) (floatOfInt .f64 v) == some true && floatToIntVal .f64 (floatOfInt .f64 v) .i64 == some v
set_option maxRecDepth 100000 in
theorem okF_all : (List.range 2004).all (fun k => okF ((k : Int) - 1)) = true := by kernel_rfl
theorem okF_of {v : Int} (h1 : -1 ≤ v) (h2 : v ≤ 2002) : okF v = true := by
  have h := List.all_eq_true.1 okF_all (v + 1).toNat (List.mem_range.2 (by omega))
  have e : (((v + 1).toNat : Nat) : Int) - 1 = v := by omega
  rw [e] at h; exact h
structure OkX (x : Nat) (v : Int) : Prop where
  ge : fcmpB .geq x 0 = some (decide (0 ≤ v))
  le : fcmpB .leq x 4697254411347427328 = some true
  tr : ∀ (P : Program) (name : String) (w : World), (Extern.MathFloor.toIntegral name .zero #[.float .f64 x]).run P w = .ok (.float .f64 x) w
  eq : fcmpB .eql x x = some true
  int : floatToIntVal .f64 x .i64 = some v
theorem OkX.of {v : Int} (h1 : -1 ≤ v) (h2 : v ≤ 2002) : OkX (floatOfInt .f64 v) v := by
  have h := okF_of h1 h2
  unfold okF at h
  simp only [Bool.and_eq_true, beq_iff_eq] at h
  obtain ⟨⟨⟨⟨a, b⟩, c⟩, d⟩, e⟩ := h
  refine ⟨a, b, fun P name w => ?_, d, e⟩
  generalize floatOfInt .f64 v = x at c ⊢
  have e : Extern.MathFloor.toIntegral name .zero #[.float .f64 x] = (match FloatKind.f64.decode x with
    | .nan s t =>
      if FloatKind.f64.format.quiet t = t then pure (.float .f64 x) else do
      let kept ← choose (.extern "math.Floor,Ceil,Trunc,RoundToEven.signallingNaN kept" 2)
      pure (.float .f64 (if kept == 1 then x else FloatKind.f64.encode (.nan s (FloatKind.f64.format.quiet t))))
    | d => pure (.float .f64 (FloatKind.f64.encode (d.integral .zero)))) := rfl
  rw [e]
  generalize FloatKind.f64.decode x = dd at c ⊢
  cases dd with
  | nan s t => exact absurd c (by simp)
  | infinity s =>
    have c : (FloatKind.f64.encode ((Ieee.Datum.infinity s).integral .zero) == x) = true := c
    rw [beq_iff_eq] at c
    show (pure (Value.float .f64 (FloatKind.f64.encode ((Ieee.Datum.infinity s).integral .zero))) : Sem Value).run P w = _
    rw [c]; rfl
  | number s a b =>
    have c : (FloatKind.f64.encode ((Ieee.Datum.number s a b).integral .zero) == x) = true := c
    rw [beq_iff_eq] at c
    show (pure (Value.float .f64 (FloatKind.f64.encode ((Ieee.Datum.number s a b).integral .zero))) : Sem Value).run P w = _
    rw [c]; rfl
end Go.Lg.Sem

set_option linter.unusedVariables false
set_option linter.unusedSimpArgs false
namespace Go.Lg.Tryz
open Go Go.Proofs Go.RowKit Go.Lib Go.Lg.Sem
abbrev flt (x : Nat) : AV := .tr (.sc (.float .f64 x))
abbrev cpl (x y : Nat) : AV := .tr (.sc (.complex .f64 x y))
theorem Trunc_ok (x : Nat) (v : Int) (h : OkX x v) : Fn Tryz.prog Gw 122 [flt x] [] (· = flt x) := by
  refine Fn.of tab_ok Tryz.func122 rfl (by decide) (by simp [Tryz.f122]) rfl (fun κ v h => by cases h) Gw.below ?_
  repeat' (first|refine zS ?_|refine zR ?_|refine zE tab_ok rfl rfl ?_|refine zN ?_|(refine zG rfl rfl (fun _ => ?_) fun _ => ?_)<;>refine zE tab_ok rfl rfl ?_|(refine zC rfl (fun _ => ?_) fun _ => ?_)<;>try (rename_i h; cases h; done)|refine zB ?_|refine zK ?_|refine zZ ⟨_, rfl, ?_⟩)
  refine Tr.condC ?_
  show Tr _ _ _ (.seq _ _) _ _
  repeat' (first|refine zS ?_|refine zR ?_|refine zE tab_ok rfl rfl ?_|refine zN ?_|(refine zG rfl rfl (fun _ => ?_) fun _ => ?_)<;>refine zE tab_ok rfl rfl ?_|(refine zC rfl (fun _ => ?_) fun _ => ?_)<;>try (rename_i h; cases h; done)|refine zB ?_|refine zK ?_|refine zZ ⟨_, rfl, ?_⟩)
  refine Sq.ext rfl Tryz.func135 (by kernel_rfl) (by kernel_rfl) (by kernel_rfl) (show _ = some (Extern.MathFloor.toIntegral "math.archTrunc" .zero) by kernel_rfl) (fun w => h.tr _ _ w) rfl ?_
  repeat' (first|refine zS ?_|refine zR ?_|refine zE tab_ok rfl rfl ?_|refine zN ?_|(refine zG rfl rfl (fun _ => ?_) fun _ => ?_)<;>refine zE tab_ok rfl rfl ?_|(refine zC rfl (fun _ => ?_) fun _ => ?_)<;>try (rename_i h; cases h; done)|refine zB ?_|refine zK ?_|refine zZ ⟨_, rfl, ?_⟩)
  rfl
theorem whole_ok (x : Nat) (v : Int) (h : OkX x v) : Fn Tryz.prog Gw 96 [flt x, .tr (.sc (.float .f64 0))] [] (· = bool (decide (0 ≤ v))) := by
  have hT := Trunc_ok x v h
  refine Fn.of tab_ok Tryz.func96 rfl (by decide) (by simp [Tryz.f96]) rfl (fun κ v h => by cases h) Gw.below ?_
  repeat' (first|refine zS ?_|refine zR ?_|refine zE tab_ok rfl rfl ?_|refine zN ?_|(refine zG rfl rfl (fun _ => ?_) fun _ => ?_)<;>refine zE tab_ok rfl rfl ?_|(refine zC rfl (fun _ => ?_) fun _ => ?_)<;>try (rename_i h; cases h; done)|refine zB ?_|refine zK ?_|refine zZ ⟨_, rfl, ?_⟩)
  refine Sq.fcmp rfl h.ge ?_
  refine zE tab_ok rfl rfl ?_
  by_cases hv : 0 ≤ v
  · rw [decide_eq_true hv]
    repeat' (first|refine zS ?_|refine zR ?_|refine zE tab_ok rfl rfl ?_|refine zN ?_|(refine zG rfl rfl (fun _ => ?_) fun _ => ?_)<;>refine zE tab_ok rfl rfl ?_|(refine zC rfl (fun _ => ?_) fun _ => ?_)<;>try (rename_i h; cases h; done)|refine zB ?_|refine zK ?_|refine zZ ⟨_, rfl, ?_⟩)
    refine Sq.fcmp rfl h.le ?_
    repeat' (first|refine zS ?_|refine zR ?_|refine zE tab_ok rfl rfl ?_|refine zN ?_|(refine zG rfl rfl (fun _ => ?_) fun _ => ?_)<;>refine zE tab_ok rfl rfl ?_|(refine zC rfl (fun _ => ?_) fun _ => ?_)<;>try (rename_i h; cases h; done)|refine zB ?_|refine zK ?_|refine zZ ⟨_, rfl, ?_⟩)
    refine Sq.callv rfl (hT) ?_
    refine Sq.fcmp rfl h.eq ?_
    repeat' (first|refine zS ?_|refine zR ?_|refine zE tab_ok rfl rfl ?_|refine zN ?_|(refine zG rfl rfl (fun _ => ?_) fun _ => ?_)<;>refine zE tab_ok rfl rfl ?_|(refine zC rfl (fun _ => ?_) fun _ => ?_)<;>try (rename_i h; cases h; done)|refine zB ?_|refine zK ?_|refine zZ ⟨_, rfl, ?_⟩)
    rfl
  · rw [decide_eq_false hv]
    repeat' (first|refine zS ?_|refine zR ?_|refine zE tab_ok rfl rfl ?_|refine zN ?_|(refine zG rfl rfl (fun _ => ?_) fun _ => ?_)<;>refine zE tab_ok rfl rfl ?_|(refine zC rfl (fun _ => ?_) fun _ => ?_)<;>try (rename_i h; cases h; done)|refine zB ?_|refine zK ?_|refine zZ ⟨_, rfl, ?_⟩)
    rfl
theorem place_ok (x y : Nat) (v f : Int) (h1 : OkX x v) (h2 : OkX y f) : Fn Tryz.prog Gw 73 [cpl x y] [] (· = bool (decide (0 ≤ v) && decide (0 ≤ f))) := by
  have hv := whole_ok x v h1
  have hf := whole_ok y f h2
  refine Fn.of tab_ok Tryz.func73 rfl (by decide) (by simp [Tryz.f73]) rfl (fun κ v h => by cases h) Gw.below ?_
  repeat' (first|refine zS ?_|refine zR ?_|refine zE tab_ok rfl rfl ?_|refine zN ?_|(refine zG rfl rfl (fun _ => ?_) fun _ => ?_)<;>refine zE tab_ok rfl rfl ?_|(refine zC rfl (fun _ => ?_) fun _ => ?_)<;>try (rename_i h; cases h; done)|refine zB ?_|refine zK ?_|refine zZ ⟨_, rfl, ?_⟩)
  refine Sq.reim (r := true) rfl ?_
  refine Sq.callv rfl (hv) ?_
  refine zE tab_ok rfl rfl ?_
  cases decide (0 ≤ v)
  · repeat' (first|refine zS ?_|refine zR ?_|refine zE tab_ok rfl rfl ?_|refine zN ?_|(refine zG rfl rfl (fun _ => ?_) fun _ => ?_)<;>refine zE tab_ok rfl rfl ?_|(refine zC rfl (fun _ => ?_) fun _ => ?_)<;>try (rename_i h; cases h; done)|refine zB ?_|refine zK ?_|refine zZ ⟨_, rfl, ?_⟩)
    rfl
  · repeat' (first|refine zS ?_|refine zR ?_|refine zE tab_ok rfl rfl ?_|refine zN ?_|(refine zG rfl rfl (fun _ => ?_) fun _ => ?_)<;>refine zE tab_ok rfl rfl ?_|(refine zC rfl (fun _ => ?_) fun _ => ?_)<;>try (rename_i h; cases h; done)|refine zB ?_|refine zK ?_|refine zZ ⟨_, rfl, ?_⟩)
    refine Sq.reim (r := false) rfl ?_
    refine Sq.callv rfl (hf) ?_
    repeat' (first|refine zS ?_|refine zR ?_|refine zE tab_ok rfl rfl ?_|refine zN ?_|(refine zG rfl rfl (fun _ => ?_) fun _ => ?_)<;>refine zE tab_ok rfl rfl ?_|(refine zC rfl (fun _ => ?_) fun _ => ?_)<;>try (rename_i h; cases h; done)|refine zB ?_|refine zK ?_|refine zZ ⟨_, rfl, ?_⟩)
    rfl
theorem Parts_ok (x y : Nat) (v f : Int) (h1 : OkX x v) (h2 : OkX y f) : Fn Tryz.prog Gw 46 [cpl x y] [] (· = if 0 ≤ v ∧ 0 ≤ f then .tup [int v, int f, int 0] else .tup [int 0, int 0, int 12]) := by
  have hp := place_ok x y v f h1 h2
  refine Fn.of tab_ok Tryz.func46 rfl (by decide) (by simp [Tryz.f46]) rfl (fun κ v h => by cases h) Gw.below ?_
  repeat' (first|refine zS ?_|refine zR ?_|refine zE tab_ok rfl rfl ?_|refine zN ?_|(refine zG rfl rfl (fun _ => ?_) fun _ => ?_)<;>refine zE tab_ok rfl rfl ?_|(refine zC rfl (fun _ => ?_) fun _ => ?_)<;>try (rename_i h; cases h; done)|refine zB ?_|refine zK ?_|refine zZ ⟨_, rfl, ?_⟩)
  by_cases h : 0 ≤ v ∧ 0 ≤ f
  · rw [if_pos h]
    rw [decide_eq_true h.1, decide_eq_true h.2] at hp
    refine Sq.callv rfl (hp) ?_
    repeat' (first|refine zS ?_|refine zR ?_|refine zE tab_ok rfl rfl ?_|refine zN ?_|(refine zG rfl rfl (fun _ => ?_) fun _ => ?_)<;>refine zE tab_ok rfl rfl ?_|(refine zC rfl (fun _ => ?_) fun _ => ?_)<;>try (rename_i h; cases h; done)|refine zB ?_|refine zK ?_|refine zZ ⟨_, rfl, ?_⟩)
    refine Sq.reim (r := true) rfl ?_
    refine Sq.f2i rfl (by rw [Tryz.underlying110]; rfl) Tryz.underlying3 h1.int ?_
    repeat' (first|refine zS ?_|refine zR ?_|refine zE tab_ok rfl rfl ?_|refine zN ?_|(refine zG rfl rfl (fun _ => ?_) fun _ => ?_)<;>refine zE tab_ok rfl rfl ?_|(refine zC rfl (fun _ => ?_) fun _ => ?_)<;>try (rename_i h; cases h; done)|refine zB ?_|refine zK ?_|refine zZ ⟨_, rfl, ?_⟩)
    refine Sq.reim (r := false) rfl ?_
    refine Sq.f2i rfl (by rw [Tryz.underlying110]; rfl) Tryz.underlying3 h2.int ?_
    repeat' (first|refine zS ?_|refine zR ?_|refine zE tab_ok rfl rfl ?_|refine zN ?_|(refine zG rfl rfl (fun _ => ?_) fun _ => ?_)<;>refine zE tab_ok rfl rfl ?_|(refine zC rfl (fun _ => ?_) fun _ => ?_)<;>try (rename_i h; cases h; done)|refine zB ?_|refine zK ?_|refine zZ ⟨_, rfl, ?_⟩)
    rfl
  · rw [if_neg h]
    have e : (decide (0 ≤ v) && decide (0 ≤ f)) = false := by
      rw [← Bool.not_eq_true, Bool.and_eq_true, decide_eq_true_eq, decide_eq_true_eq]; exact h
    rw [e] at hp
    refine Sq.callv rfl (hp) ?_
    repeat' (first|refine zS ?_|refine zR ?_|refine zE tab_ok rfl rfl ?_|refine zN ?_|(refine zG rfl rfl (fun _ => ?_) fun _ => ?_)<;>refine zE tab_ok rfl rfl ?_|(refine zC rfl (fun _ => ?_) fun _ => ?_)<;>try (rename_i h; cases h; done)|refine zB ?_|refine zK ?_|refine zZ ⟨_, rfl, ?_⟩)
    rfl
def standsB (c : Ctl) (i v f : Int) : Bool := decide (0 ≤ i) && decide (0 ≤ f) && match relAt c i v with
  | some r => decide (-1 ≤ f - 2 * r.level) && decide (f - 2 * r.level ≤ 1)
  | none => false
theorem stands_none {c : Ctl} {i v f : Int} (h : relAt c i v = none) : standsB c i v f = false := by
  unfold standsB; rw [h]; simp
theorem Stands_ok {c : Ctl} (hr : ∀ s, s ∈ c → ∀ r, r ∈ s.rels → 0 ≤ r.level ∧ r.level ≤ 1000) (i : Int) (x y : Nat) (v f : Int) (h1 : OkX x v) (h2 : OkX y f) (hf : f ≤ 100000) :
    Fn Tryz.prog Gw 25 [.tr (ctlT c), int i, cpl x y] [] (· = bool (standsB c i v f)) := by
  have hp := Parts_ok x y v f h1 h2
  refine Fn.of tab_ok Tryz.func25 rfl (by decide) (by simp [Tryz.f25]) rfl (fun κ v h => by cases h) Gw.below ?_
  repeat' (first|refine zS ?_|refine zR ?_|refine zE tab_ok rfl rfl ?_|refine zN ?_|(refine zG rfl rfl (fun _ => ?_) fun _ => ?_)<;>refine zE tab_ok rfl rfl ?_|(refine zC rfl (fun _ => ?_) fun _ => ?_)<;>try (rename_i h; cases h; done)|refine zB ?_|refine zK ?_|refine zZ ⟨_, rfl, ?_⟩)
  by_cases h : 0 ≤ v ∧ 0 ≤ f
  case neg =>
    rw [if_neg h] at hp
    refine Sq.callv rfl (hp) ?_
    repeat' (first|refine zS ?_|refine zR ?_|refine zE tab_ok rfl rfl ?_|refine zN ?_|(refine zG rfl rfl (fun _ => ?_) fun _ => ?_)<;>refine zE tab_ok rfl rfl ?_|(refine zC rfl (fun _ => ?_) fun _ => ?_)<;>try (rename_i h; cases h; done)|refine zB ?_|refine zK ?_|refine zZ ⟨_, rfl, ?_⟩)
    have : standsB c i v f = false := by
      unfold standsB
      by_cases hf : 0 ≤ f
      · rw [relAt_neg (by omega)]; simp
      · rw [decide_eq_false hf]; simp
    rw [this]
  rw [if_pos h] at hp
  refine Sq.callv rfl (hp) ?_
  repeat' (first|refine zS ?_|refine zR ?_|refine zE tab_ok rfl rfl ?_|refine zN ?_|(refine zG rfl rfl (fun _ => ?_) fun _ => ?_)<;>refine zE tab_ok rfl rfl ?_|(refine zC rfl (fun _ => ?_) fun _ => ?_)<;>try (rename_i h; cases h; done)|refine zB ?_|refine zK ?_|refine zZ ⟨_, rfl, ?_⟩)
  · rename_i h3 _
    have h3 := of_decide_eq_true h3
    have : standsB c i v f = false := by unfold standsB; rw [decide_eq_false (by omega)]; rfl
    rw [this]
  · rename_i h3 h4 _
    have h3 := of_decide_eq_false h3
    have h4 : decide (i ≥ ((c.map svcT).length : Int)) = true := h4
    rw [List.length_map] at h4
    have h4 := of_decide_eq_true h4
    rw [stands_none (by unfold relAt; rw [List.getElem?_eq_none (by omega)])]
  rename_i h3 h4
  have h3 := of_decide_eq_false h3
  have h4 : decide (i ≥ ((c.map svcT).length : Int)) = false := h4
  rw [List.length_map] at h4
  have h4 := of_decide_eq_false h4
  obtain ⟨s, hs⟩ : ∃ s, c[i.toNat]? = some s := ⟨_, List.getElem?_eq_getElem (by omega)⟩
  have hsm : s ∈ c := List.mem_of_getElem? hs
  have hse : (c.map svcT)[i.toNat]? = some (svcT s) := by simp [hs]
  refine zI (x := svcT s) tab_ok rfl (by omega) (hse) rfl ?_
  repeat' (first|refine zS ?_|refine zR ?_|refine zE tab_ok rfl rfl ?_|refine zN ?_|(refine zG rfl rfl (fun _ => ?_) fun _ => ?_)<;>refine zE tab_ok rfl rfl ?_|(refine zC rfl (fun _ => ?_) fun _ => ?_)<;>try (rename_i h; cases h; done)|refine zB ?_|refine zK ?_|refine zZ ⟨_, rfl, ?_⟩)
  · rename_i h5
    have h5 : decide (v ≥ ((s.rels.map rlsT).length : Int)) = true := h5
    rw [List.length_map] at h5
    have h5 := of_decide_eq_true h5
    rw [stands_none (by rw [relAt_pos hs (by omega)]; exact List.getElem?_eq_none (by omega))]
  rename_i h5
  have h5 : decide (v ≥ ((s.rels.map rlsT).length : Int)) = false := h5
  rw [List.length_map] at h5
  have h5 := of_decide_eq_false h5
  obtain ⟨r, hrr⟩ : ∃ r, s.rels[v.toNat]? = some r := ⟨_, List.getElem?_eq_getElem (by omega)⟩
  have hre : (s.rels.map rlsT)[v.toNat]? = some (rlsT r) := by simp [hrr]
  obtain ⟨l0, l1⟩ := hr s hsm r (List.mem_of_getElem? hrr)
  have hB : standsB c i v f = (decide (-1 ≤ f - 2 * r.level) && decide (f - 2 * r.level ≤ 1)) := by
    unfold standsB; rw [relAt_pos hs (by omega), hrr, decide_eq_true (by omega), decide_eq_true h.2]; rfl
  rw [hB]
  refine zI (x := svcT s) tab_ok rfl (by omega) (hse) rfl ?_
  repeat' (first|refine zS ?_|refine zR ?_|refine zE tab_ok rfl rfl ?_|refine zN ?_|(refine zG rfl rfl (fun _ => ?_) fun _ => ?_)<;>refine zE tab_ok rfl rfl ?_|(refine zC rfl (fun _ => ?_) fun _ => ?_)<;>try (rename_i h; cases h; done)|refine zB ?_|refine zK ?_|refine zZ ⟨_, rfl, ?_⟩)
  refine zI (x := rlsT r) tab_ok rfl (by omega) (hre) rfl ?_
  repeat' (first|refine zS ?_|refine zR ?_|refine zE tab_ok rfl rfl ?_|refine zN ?_|(refine zG rfl rfl (fun _ => ?_) fun _ => ?_)<;>refine zE tab_ok rfl rfl ?_|(refine zC rfl (fun _ => ?_) fun _ => ?_)<;>try (rename_i h; cases h; done)|refine zB ?_|refine zK ?_|refine zZ ⟨_, rfl, ?_⟩)
  all_goals
    have hw : IntKind.i64.wrap (f - IntKind.i64.wrap (2 * r.level)) = f - 2 * r.level := by
      rw [Go.IntWalk.i64_in (2 * r.level) ⟨by omega, by omega⟩, Go.IntWalk.i64_in _ ⟨by omega, by omega⟩]
  · rename_i h6
    rw [hw] at h6 ⊢
    have h6 := of_decide_eq_true h6
    rw [decide_eq_true (show -1 ≤ f - 2 * r.level by omega)]; rfl
  · rename_i h6
    rw [hw] at h6
    have h6 := of_decide_eq_false h6
    rw [decide_eq_false (show ¬ -1 ≤ f - 2 * r.level by omega)]; rfl
structure Pl where
  x : Nat
  y : Nat
  v : Int
  f : Int
def Pl.ok (p : Pl) : Prop := OkX p.x p.v ∧ OkX p.y p.f ∧ p.f ≤ 100000
abbrev plT (p : Pl) : T := .sc (.complex .f64 p.x p.y)
def goodAt (c : Ctl) (l : List Pl) (i : Nat) : Bool := match l[i]? with
  | some p => standsB c i p.v p.f && (List.range i).all fun j => match l[j]? with
    | some q => fitsB c i p.v j q.v
    | none => true
  | none => true
def goodB (c : Ctl) (l : List Pl) : Bool := decide (l.length = c.length) && (List.range l.length).all (goodAt c l)
theorem Good_ok {c : Ctl} (h : Ctl.ok c) (hr : ∀ s, s ∈ c → ∀ r, r ∈ s.rels → 0 ≤ r.level ∧ r.level ≤ 1000) (hc : c.length ≤ 1000000) (l : List Pl) (hl : ∀ p, p ∈ l → p.ok) :
    Fn Tryz.prog Gw 26 [.tr (ctlT c), .tr (.ls (l.map plT))] [] (· = bool (goodB c l)) := by
  by_cases hlc : l.length = c.length
  case neg =>
    have : goodB c l = false := by unfold goodB; rw [decide_eq_false hlc]; rfl
    rw [this]
    refine Fn.of tab_ok Tryz.func26 rfl (by decide) (by simp [Tryz.f26]) rfl (fun κ v h => by cases h) Gw.below ?_
    repeat' (first|refine zS ?_|refine zR ?_|refine zE tab_ok rfl rfl ?_|refine zN ?_|(refine zG rfl rfl (fun _ => ?_) fun _ => ?_)<;>refine zE tab_ok rfl rfl ?_|(refine zC rfl (fun _ => ?_) fun _ => ?_)<;>try (rename_i h; cases h; done)|refine zB ?_|refine zK ?_|refine zZ ⟨_, rfl, ?_⟩)
    · rfl
    · rename_i h; exfalso
      have h : (((l.map plT).length : Int) != ((c.map svcT).length : Int)) = false := h
      rw [List.length_map, List.length_map] at h
      simp at h; omega
  have hG : goodB c l = (List.range l.length).all (goodAt c l) := by unfold goodB; rw [decide_eq_true hlc]; rfl
  refine Fn.of tab_ok Tryz.func26 rfl (by decide) (by simp [Tryz.f26]) rfl (fun κ v h => by cases h) Gw.below ?_
  repeat' (first|refine zS ?_|refine zR ?_|refine zE tab_ok rfl rfl ?_|refine zN ?_|(refine zG rfl rfl (fun _ => ?_) fun _ => ?_)<;>refine zE tab_ok rfl rfl ?_|(refine zC rfl (fun _ => ?_) fun _ => ?_)<;>try (rename_i h; cases h; done)|refine zB ?_|refine zK ?_|refine zZ ⟨_, rfl, ?_⟩)
  · rename_i h; exfalso
    have h : (((l.map plT).length : Int) != ((c.map svcT).length : Int)) = true := h
    rw [List.length_map, List.length_map] at h
    simp at h; omega
  refine Tr.loopS (fun i : Nat => [(.s 1, .tr (.ls (l.map plT))), (.s 2, .ptr (.l 2) 0), (.l 2, .blk 24 [.tr (.ls (c.map svcT))]), (.s 15, .tr (.ls (l.map plT))), (.s 16, int (l.map plT).length), (.s 17, int i)]) (fun i => l.length - i)
    (fun i => i ≤ l.length ∧ (List.range i).all (goodAt c l) = true) 0 ⟨by omega, rfl⟩ (Sub.app (l := [_, _, _, _, _, _]) (H := []) ⟨rfl, rfl, rfl, rfl, rfl, rfl, trivial⟩ (fun κ v h => nomatch h)) ?_
  rintro i ⟨hi, hp⟩
  repeat' (first|refine zS ?_|refine zR ?_|refine zE tab_ok rfl rfl ?_|refine zN ?_|(refine zG rfl rfl (fun _ => ?_) fun _ => ?_)<;>refine zE tab_ok rfl rfl ?_|(refine zC rfl (fun _ => ?_) fun _ => ?_)<;>try (rename_i h; cases h; done)|refine zB ?_|refine zK ?_|refine zZ ⟨_, rfl, ?_⟩)
  · rename_i h2
    have hlt : i < l.length := by simp only [List.length_map, decide_eq_true_eq] at h2; omega
    obtain ⟨p, hpi⟩ : ∃ p, l[i]? = some p := ⟨_, List.getElem?_eq_getElem hlt⟩
    have hpe : (l.map plT)[((i : Nat) : Int).toNat]? = some (plT p) := by simp [hpi]
    obtain ⟨px, py, pf⟩ := hl p (List.mem_of_getElem? hpi)
    have hS := Stands_ok hr (i : Int) p.x p.y p.v p.f px py pf
    have hA : goodAt c l i = (standsB c i p.v p.f && (List.range i).all fun j => match l[j]? with | some q => fitsB c i p.v j q.v | none => true) := by unfold goodAt; rw [hpi]
    have bad : goodAt c l i = false → goodB c l = false := fun hb => by
      rw [hG, ← Bool.not_eq_true, List.all_eq_true]
      intro hh
      rw [hh i (List.mem_range.2 hlt)] at hb; cases hb
    refine zI (x := plT p) tab_ok rfl (by omega) (hpe) rfl ?_
    repeat' (first|refine zS ?_|refine zR ?_|refine zE tab_ok rfl rfl ?_|refine zN ?_|(refine zG rfl rfl (fun _ => ?_) fun _ => ?_)<;>refine zE tab_ok rfl rfl ?_|(refine zC rfl (fun _ => ?_) fun _ => ?_)<;>try (rename_i h; cases h; done)|refine zB ?_|refine zK ?_|refine zZ ⟨_, rfl, ?_⟩)
    cases hst : standsB c i p.v p.f
    · rw [hst] at hS hA
      refine Sq.callv rfl (hS) ?_
      repeat' (first|refine zS ?_|refine zR ?_|refine zE tab_ok rfl rfl ?_|refine zN ?_|(refine zG rfl rfl (fun _ => ?_) fun _ => ?_)<;>refine zE tab_ok rfl rfl ?_|(refine zC rfl (fun _ => ?_) fun _ => ?_)<;>try (rename_i h; cases h; done)|refine zB ?_|refine zK ?_|refine zZ ⟨_, rfl, ?_⟩)
      rw [bad (by rw [hA]; rfl)]
    rw [hst] at hS hA
    rw [Bool.true_and] at hA
    refine Sq.callv rfl (hS) ?_
    repeat' (first|refine zS ?_|refine zR ?_|refine zE tab_ok rfl rfl ?_|refine zN ?_|(refine zG rfl rfl (fun _ => ?_) fun _ => ?_)<;>refine zE tab_ok rfl rfl ?_|(refine zC rfl (fun _ => ?_) fun _ => ?_)<;>try (rename_i h; cases h; done)|refine zB ?_|refine zK ?_|refine zZ ⟨_, rfl, ?_⟩)
    refine Sq.part tab_ok rfl (fun x hx => by obtain ⟨a, _, rfl⟩ := List.mem_map.1 hx; rfl) (by simp [Bd.lo]) (by simp [Bd.lo, Bd.hi]) (by simp [Bd.hi]; omega) ?_
    refine Sq.re (v' := .tr (.ls ((l.take i).map plT))) (by simp [Bd.lo, Bd.hi, List.map_take]) ?_
    repeat' (first|refine zS ?_|refine zR ?_|refine zE tab_ok rfl rfl ?_|refine zN ?_|(refine zG rfl rfl (fun _ => ?_) fun _ => ?_)<;>refine zE tab_ok rfl rfl ?_|(refine zC rfl (fun _ => ?_) fun _ => ?_)<;>try (rename_i h; cases h; done)|refine zB ?_|refine zK ?_|refine zZ ⟨_, rfl, ?_⟩)
    have hti : (l.take i).length = i := by rw [List.length_take]; omega
    have hat : ∀ j, j < i → (l.take i)[j]? = l[j]? := fun j hj => by rw [List.getElem?_take, if_pos hj]
    refine Tr.loopS (fun j : Nat => [(.s 1, .tr (.ls (l.map plT))), (.s 2, .ptr (.l 2) 0), (.l 2, .blk 24 [.tr (.ls (c.map svcT))]), (.s 15, .tr (.ls (l.map plT))), (.s 16, int (l.map plT).length), (.s 17, int i), (.s 5, int i), (.s 6, .tr (plT p)), (.s 29, .tr (.ls ((l.take i).map plT))), (.s 30, int ((l.take i).map plT).length), (.s 31, int j)]) (fun j => i - j)
      (fun j => j ≤ i ∧ (List.range j).all (fun j => match l[j]? with | some q => fitsB c i p.v j q.v | none => true) = true) 0 ⟨by omega, rfl⟩ (Sub.app (l := [_, _, _, _, _, _, _, _, _, _, _]) (H := []) ⟨rfl, rfl, rfl, rfl, rfl, rfl, rfl, rfl, rfl, rfl, rfl, trivial⟩ (fun κ v h => nomatch h)) ?_
    rintro j ⟨hj, hq⟩
    repeat' (first|refine zS ?_|refine zR ?_|refine zE tab_ok rfl rfl ?_|refine zN ?_|(refine zG rfl rfl (fun _ => ?_) fun _ => ?_)<;>refine zE tab_ok rfl rfl ?_|(refine zC rfl (fun _ => ?_) fun _ => ?_)<;>try (rename_i h; cases h; done)|refine zB ?_|refine zK ?_|refine zZ ⟨_, rfl, ?_⟩)
    · rename_i h3
      have h3 : decide ((j : Int) < (((l.take i).map plT).length : Int)) = true := h3
      rw [List.length_map, hti] at h3
      have h3 := of_decide_eq_true h3
      obtain ⟨q, hqj⟩ : ∃ q, l[j]? = some q := ⟨_, List.getElem?_eq_getElem (by omega)⟩
      have hqe : ((l.take i).map plT)[((j : Nat) : Int).toNat]? = some (plT q) := by rw [Int.toNat_natCast, List.getElem?_map, hat j (by omega), hqj]; rfl
      obtain ⟨qx, qy, qf⟩ := hl q (List.mem_of_getElem? hqj)
      have hF := Fits_ok h (i : Int) p.v (j : Int) q.v
      refine zI (x := plT q) tab_ok rfl (by omega) (hqe) rfl ?_
      repeat' (first|refine zS ?_|refine zR ?_|refine zE tab_ok rfl rfl ?_|refine zN ?_|(refine zG rfl rfl (fun _ => ?_) fun _ => ?_)<;>refine zE tab_ok rfl rfl ?_|(refine zC rfl (fun _ => ?_) fun _ => ?_)<;>try (rename_i h; cases h; done)|refine zB ?_|refine zK ?_|refine zZ ⟨_, rfl, ?_⟩)
      refine Sq.reim (r := true) rfl ?_
      refine Sq.f2i rfl (by rw [Tryz.underlying110]; rfl) Tryz.underlying3 px.int ?_
      repeat' (first|refine zS ?_|refine zR ?_|refine zE tab_ok rfl rfl ?_|refine zN ?_|(refine zG rfl rfl (fun _ => ?_) fun _ => ?_)<;>refine zE tab_ok rfl rfl ?_|(refine zC rfl (fun _ => ?_) fun _ => ?_)<;>try (rename_i h; cases h; done)|refine zB ?_|refine zK ?_|refine zZ ⟨_, rfl, ?_⟩)
      refine Sq.reim (r := true) rfl ?_
      refine Sq.f2i rfl (by rw [Tryz.underlying110]; rfl) Tryz.underlying3 qx.int ?_
      cases hb : fitsB c i p.v j q.v
      · rw [hb] at hF
        refine Sq.callv rfl (hF) ?_
        repeat' (first|refine zS ?_|refine zR ?_|refine zE tab_ok rfl rfl ?_|refine zN ?_|(refine zG rfl rfl (fun _ => ?_) fun _ => ?_)<;>refine zE tab_ok rfl rfl ?_|(refine zC rfl (fun _ => ?_) fun _ => ?_)<;>try (rename_i h; cases h; done)|refine zB ?_|refine zK ?_|refine zZ ⟨_, rfl, ?_⟩)
        rw [bad (by
          rw [hA, ← Bool.not_eq_true, List.all_eq_true]
          intro hh
          have := hh j (List.mem_range.2 (by omega))
          rw [hqj] at this
          simp only at this
          rw [hb] at this; cases this)]
      · rw [hb] at hF
        refine Sq.callv rfl (hF) ?_
        repeat' (first|refine zS ?_|refine zR ?_|refine zE tab_ok rfl rfl ?_|refine zN ?_|(refine zG rfl rfl (fun _ => ?_) fun _ => ?_)<;>refine zE tab_ok rfl rfl ?_|(refine zC rfl (fun _ => ?_) fun _ => ?_)<;>try (rename_i h; cases h; done)|refine zB ?_|refine zK ?_|refine zZ ⟨_, rfl, ?_⟩)
        exact ⟨j + 1, ⟨by omega, by rw [List.range_succ, List.all_append, hq]; simp [hqj, hb]⟩, by omega, Sub.app (l := [_, _, _, _, _, _, _, _, _, _, _]) (H := []) ⟨rfl, rfl, rfl, rfl, rfl, rfl, rfl, rfl, rfl, rfl, congrArg some (wrapz (by omega) (by omega) (by omega)), trivial⟩ (fun κ v h => nomatch h)⟩
    · rename_i h3
      have h3 : decide ((j : Int) < (((l.take i).map plT).length : Int)) = false := h3
      rw [List.length_map, hti] at h3
      have h3 := of_decide_eq_false h3
      have : j = i := by omega
      subst this
      refine Tr.exit ?_
      repeat' (first|refine zS ?_|refine zR ?_|refine zE tab_ok rfl rfl ?_|refine zN ?_|(refine zG rfl rfl (fun _ => ?_) fun _ => ?_)<;>refine zE tab_ok rfl rfl ?_|(refine zC rfl (fun _ => ?_) fun _ => ?_)<;>try (rename_i h; cases h; done)|refine zB ?_|refine zK ?_|refine zZ ⟨_, rfl, ?_⟩)
      exact ⟨j + 1, ⟨by omega, by rw [List.range_succ, List.all_append, hp]; simp [hA, hq]⟩, by omega, Sub.app (l := [_, _, _, _, _, _]) (H := []) ⟨rfl, rfl, rfl, rfl, rfl, congrArg some (wrapz (by omega) (by omega) (by omega)), trivial⟩ (fun κ v h => nomatch h)⟩
  · rename_i h2
    have : i = l.length := by simp only [List.length_map, decide_eq_false_iff_not] at h2; omega
    subst this
    refine Tr.exit ?_
    repeat' (first|refine zS ?_|refine zR ?_|refine zE tab_ok rfl rfl ?_|refine zN ?_|(refine zG rfl rfl (fun _ => ?_) fun _ => ?_)<;>refine zE tab_ok rfl rfl ?_|(refine zC rfl (fun _ => ?_) fun _ => ?_)<;>try (rename_i h; cases h; done)|refine zB ?_|refine zK ?_|refine zZ ⟨_, rfl, ?_⟩)
    rw [hG, hp]
end Go.Lg.Tryz

set_option linter.unusedVariables false
set_option linter.unusedSimpArgs false
namespace Go.Lg.Tryz
open Go Go.Proofs Go.RowKit Go.Lib Go.Lg.Sem
def vN (k : Int) : Ver := ⟨k, 0, 0, ⟨#[]⟩⟩
def exN (op : Int) : List Nd := [⟨0, [[⟨op, if op > 0 then vN 1 else vN 0⟩]]⟩]
def exC : Ctl := [⟨⟨#[97]⟩, [⟨vN 1, 0, []⟩, ⟨vN 2, 0, []⟩]⟩, ⟨⟨#[98]⟩, [⟨vN 1, 0, exN 6⟩, ⟨vN 2, 0, exN 0⟩]⟩]
abbrev exH : Store := [(.e 0, .blk 75 [int 1, int 0, int 0, str ⟨#[]⟩])]
theorem example1_ok (op : Int) : Fn Tryz.prog Gw 53 [int op, .ptr (.e 0) 0] exH (· = .own 83 ((exN op).map ndT)) := by
  refine Fn.of tab_ok Tryz.func53 rfl (by decide) (by simp [Tryz.f53]) rfl (fun κ v h => (lk1 h).1 ▸ rfl) Gw.below ?_
  repeat' (first|refine zS ?_|refine zR ?_|refine zE tab_ok rfl rfl ?_|refine zN ?_|(refine zG rfl rfl (fun _ => ?_) fun _ => ?_)<;>refine zE tab_ok rfl rfl ?_|(refine zC rfl (fun _ => ?_) fun _ => ?_)<;>try (rename_i h; cases h; done)|refine zB ?_|refine zK ?_|refine zZ ⟨_, rfl, ?_⟩)
  · rename_i h
    have h := of_decide_eq_true h
    unfold exN; rw [if_pos h]; rfl
  · rename_i h
    have h := of_decide_eq_false h
    unfold exN; rw [if_neg h]; rfl
set_option maxRecDepth 8192 in
theorem example_ok : Fn Tryz.prog Gw 29 [] [] (· = .tr (ctlT exC)) := by
  have h6 := example1_ok 6
  have h0 := example1_ok 0
  refine Fn.of tab_ok Tryz.func29 rfl (by decide) (by simp [Tryz.f29]) rfl (fun κ v h => by cases h) Gw.below ?_
  repeat' (first|refine zS ?_|refine zR ?_|refine zE tab_ok rfl rfl ?_|refine zN ?_|(refine zG rfl rfl (fun _ => ?_) fun _ => ?_)<;>refine zE tab_ok rfl rfl ?_|(refine zC rfl (fun _ => ?_) fun _ => ?_)<;>try (rename_i h; cases h; done)|refine zB ?_|refine zK ?_|refine zZ ⟨_, rfl, ?_⟩)
  refine Tr.drawn ( zD tab_ok rfl rfl <| zD tab_ok rfl rfl <| zD tab_ok rfl rfl <| zD tab_ok rfl rfl <| zD tab_ok rfl rfl <| zD tab_ok rfl rfl <| zD tab_ok rfl rfl <| zD tab_ok rfl rfl <| DSq.call rfl (fun _ => rfl) (h6) <| zD tab_ok rfl rfl <| zD tab_ok rfl rfl <| zD tab_ok rfl rfl <| DSq.call rfl (fun _ => rfl) (h0) <| zD tab_ok rfl rfl <| zD tab_ok rfl rfl <| zD tab_ok rfl rfl <| zD tab_ok rfl rfl <| zD tab_ok rfl rfl <| zD tab_ok rfl rfl <| DSq.nil _) mix_ok rfl ?_
  repeat' (first|refine zS ?_|refine zR ?_|refine zE tab_ok rfl rfl ?_|refine zN ?_|(refine zG rfl rfl (fun _ => ?_) fun _ => ?_)<;>refine zE tab_ok rfl rfl ?_|(refine zC rfl (fun _ => ?_) fun _ => ?_)<;>try (rename_i h; cases h; done)|refine zB ?_|refine zK ?_|refine zZ ⟨_, rfl, ?_⟩)
  rfl
theorem exC_ok : Ctl.ok exC := ctl_ok (by decide +kernel)
theorem exC_lv : ∀ s, s ∈ exC → s.rels.length ≤ 12 ∧ ∀ r, r ∈ s.rels → 0 ≤ r.level ∧ r.level ≤ 1000 := by
  intro s hs
  simp only [exC, List.mem_cons, List.not_mem_nil, or_false] at hs
  rcases hs with rfl | rfl <;> refine ⟨by decide, fun r hr => ?_⟩ <;> simp only [List.mem_cons, List.not_mem_nil, or_false] at hr <;> rcases hr with rfl | rfl <;> exact ⟨by decide, by decide⟩
theorem exC_nm : ∀ s, s ∈ exC → s.name.size ≤ 1000000000 := by
  intro s hs
  simp only [exC, List.mem_cons, List.not_mem_nil, or_false] at hs
  rcases hs with rfl | rfl <;> decide
theorem exC_edges : edges exC = [(0, 1)] := by decide +kernel
theorem exC_cyc : false = true ↔ CycP exC.length (edges exC) := by
  refine ⟨fun h => (nomatch h), ?_⟩
  rintro ⟨a, _, h⟩
  exfalso
  rw [exC_edges] at h
  have key : ∀ a b, EdgeWay [(0, 1)] a b → a = 0 ∧ b = 1 := by
    intro a b h
    induction h with
    | one e => simpa using e
    | snoc _ e ih =>
      obtain ⟨rfl, rfl⟩ := ih
      simp at e
  obtain ⟨rfl, h⟩ := key _ _ h
  omega
theorem edges_p (c : Ctl) : ∀ p, p ∈ edges c → p.1 < c.length ∧ p.2 < c.length := fun p hp => ⟨(edges_mem.1 hp).1, (edges_mem.1 hp).2.1⟩
theorem edges_l {c : Ctl} (h : c.length ≤ 12) : (edges c).length ≤ 4096 := by
  have := edges_len c
  have : c.length * c.length ≤ 12 * 12 := Nat.mul_le_mul h h
  omega
theorem catCheck_ok {c : Ctl} (h : Ctl.ok c) (hn : ∀ s, s ∈ c → s.name.size ≤ 1000000000) {cyc : Bool} (hc : cyc = true ↔ CycP c.length (edges c)) :
    Fn Tryz.prog Gw 12 [.tr (ctlT c)] [] (· = tri (checkV c cyc)) :=
  Check_ok h hn cyc (fun hl => Order_ok _ _ (by omega) (edges_l hl) (edges_p c) cyc hc)
theorem catRight_ok (c : Ctl) {cyc : Bool} (hc : cyc = true ↔ CycP c.length (edges c)) : Fn Tryz.prog Gw 14 [.tr (ctlT c)] [] (MadeRt c (smallC c && ((checkV c cyc).2.2 == 0))) :=
  madeRight_ok c cyc (fun hl => Circle_ok _ _ (by omega) (edges_l hl) (edges_p c) cyc hc)
theorem cyc_ex (c : Ctl) : ∃ cyc : Bool, cyc = true ↔ CycP c.length (edges c) := by
  classical exact ⟨decide (CycP c.length (edges c)), by simp⟩
abbrev exPl : Pl := ⟨floatOfInt .f64 1, floatOfInt .f64 0, 1, 0⟩
theorem exPl_ok : exPl.ok := ⟨OkX.of (v := 1) (by omega) (by omega), OkX.of (v := 0) (by omega) (by omega), by decide⟩
theorem exSettled : settledA exC [1, 1] = .tup [.tr (.ls [plT exPl, plT exPl]), int 0] := by
  have h : rightV exC [1, 1] = true := by decide +kernel
  unfold settledA
  rw [if_pos h]; rfl
set_option maxRecDepth 8192 in
theorem anchor_ok : Fn Tryz.prog Gw 10 [] [] (· = bool true) := by
  have hC := catCheck_ok exC_ok exC_nm exC_cyc
  rw [show checkV exC false = (0, 0, 0) by decide +kernel] at hC
  have hS := Settled_ok (c := exC) (by decide) exC_lv [1, 1]
  rw [exSettled] at hS
  have hF1 := Fits_ok exC_ok 0 1 1 0
  rw [show fitsB exC 0 1 1 0 = false by decide +kernel] at hF1
  have hF2 := Fits_ok exC_ok 0 1 1 1
  rw [show fitsB exC 0 1 1 1 = true by decide +kernel] at hF2
  have hL := Linked_ok exC_ok 0 1
  rw [show linkedC exC 0 1 = true by decide +kernel] at hL
  have hG := Good_ok exC_ok (fun s hs => (exC_lv s hs).2) (by decide) [exPl, exPl] (by
    intro p hp
    simp only [List.mem_cons, List.not_mem_nil, or_false, or_self] at hp
    subst hp; exact exPl_ok)
  rw [show goodB exC [exPl, exPl] = true by decide +kernel] at hG
  have hE := example_ok
  generalize exC = X at *
  refine Fn.of tab_ok Tryz.func10 rfl (by decide) (by simp [Tryz.f10]) rfl (fun κ v h => by cases h) Gw.below ?_
  repeat' (first|refine zS ?_|refine zR ?_|refine zE tab_ok rfl rfl ?_|refine zN ?_|(refine zG rfl rfl (fun _ => ?_) fun _ => ?_)<;>refine zE tab_ok rfl rfl ?_|(refine zC rfl (fun _ => ?_) fun _ => ?_)<;>try (rename_i h; cases h; done)|refine zB ?_|refine zK ?_|refine zZ ⟨_, rfl, ?_⟩)
  refine Sq.callv rfl (hE) ?_
  repeat' (first|refine zS ?_|refine zR ?_|refine zE tab_ok rfl rfl ?_|refine zN ?_|(refine zG rfl rfl (fun _ => ?_) fun _ => ?_)<;>refine zE tab_ok rfl rfl ?_|(refine zC rfl (fun _ => ?_) fun _ => ?_)<;>try (rename_i h; cases h; done)|refine zB ?_|refine zK ?_|refine zZ ⟨_, rfl, ?_⟩)
  refine Sq.callv rfl (hC) ?_
  repeat' (first|refine zS ?_|refine zR ?_|refine zE tab_ok rfl rfl ?_|refine zN ?_|(refine zG rfl rfl (fun _ => ?_) fun _ => ?_)<;>refine zE tab_ok rfl rfl ?_|(refine zC rfl (fun _ => ?_) fun _ => ?_)<;>try (rename_i h; cases h; done)|refine zB ?_|refine zK ?_|refine zZ ⟨_, rfl, ?_⟩)
  refine Sq.callv rfl (hS) ?_
  repeat' (first|refine zS ?_|refine zR ?_|refine zE tab_ok rfl rfl ?_|refine zN ?_|(refine zG rfl rfl (fun _ => ?_) fun _ => ?_)<;>refine zE tab_ok rfl rfl ?_|(refine zC rfl (fun _ => ?_) fun _ => ?_)<;>try (rename_i h; cases h; done)|refine zB ?_|refine zK ?_|refine zZ ⟨_, rfl, ?_⟩)
  refine Sq.callv rfl (hF1) ?_
  repeat' (first|refine zS ?_|refine zR ?_|refine zE tab_ok rfl rfl ?_|refine zN ?_|(refine zG rfl rfl (fun _ => ?_) fun _ => ?_)<;>refine zE tab_ok rfl rfl ?_|(refine zC rfl (fun _ => ?_) fun _ => ?_)<;>try (rename_i h; cases h; done)|refine zB ?_|refine zK ?_|refine zZ ⟨_, rfl, ?_⟩)
  refine Sq.callv rfl (hF2) ?_
  repeat' (first|refine zS ?_|refine zR ?_|refine zE tab_ok rfl rfl ?_|refine zN ?_|(refine zG rfl rfl (fun _ => ?_) fun _ => ?_)<;>refine zE tab_ok rfl rfl ?_|(refine zC rfl (fun _ => ?_) fun _ => ?_)<;>try (rename_i h; cases h; done)|refine zB ?_|refine zK ?_|refine zZ ⟨_, rfl, ?_⟩)
  refine Sq.callv rfl (hL) ?_
  repeat' (first|refine zS ?_|refine zR ?_|refine zE tab_ok rfl rfl ?_|refine zN ?_|(refine zG rfl rfl (fun _ => ?_) fun _ => ?_)<;>refine zE tab_ok rfl rfl ?_|(refine zC rfl (fun _ => ?_) fun _ => ?_)<;>try (rename_i h; cases h; done)|refine zB ?_|refine zK ?_|refine zZ ⟨_, rfl, ?_⟩)
  refine Sq.callv rfl (hG) ?_
  repeat' (first|refine zS ?_|refine zR ?_|refine zE tab_ok rfl rfl ?_|refine zN ?_|(refine zG rfl rfl (fun _ => ?_) fun _ => ?_)<;>refine zE tab_ok rfl rfl ?_|(refine zC rfl (fun _ => ?_) fun _ => ?_)<;>try (rename_i h; cases h; done)|refine zB ?_|refine zK ?_|refine zZ ⟨_, rfl, ?_⟩)
  rfl
end Go.Lg.Tryz

set_option linter.unusedVariables false
set_option linter.unusedSimpArgs false
namespace Go.Lg.Tryz
open Go Go.Proofs Go.RowKit Go.Lib Go.Lg.Sem
theorem right_of {c : Ctl} {cyc : Bool} (h : (checkV c cyc).2.2 = 0) : 1 ≤ c.length ∧ c.length ≤ 12 ∧ cyc = false ∧ ∀ i, i < c.length → (svcE c i).2.2 = 0 := by
  have h0 : ¬ (c.length < 1 ∨ c.length > 12) := fun h0 => by unfold checkV at h; rw [if_pos h0] at h; cases h
  have hall : ∀ i, i < c.length → (svcE c i).2.2 = 0 := by
    intro i
    induction i using Nat.strongRecOn with
    | _ i ih =>
      intro hi
      apply Classical.byContradiction
      intro hne
      rw [check_svc h0 hi (fun j hj => ih j hj (by omega)) hne] at h
      exact hne h
  refine ⟨by omega, by omega, ?_, hall⟩
  rw [check_none h0 hall] at h
  cases cyc
  · rfl
  · simp at h
end Go.Lg.Tryz

set_option linter.unusedVariables false
set_option linter.unusedSimpArgs false
namespace Go.Lg.Tryz
open Go Go.Proofs Go.RowKit Go.Lib Go.Lg.Sem
end Go.Lg.Tryz

set_option linter.unusedVariables false
set_option linter.unusedSimpArgs false
namespace Go.Lg.Tryz
open Go Go.Proofs Go.RowKit Go.Lib Go.Lg.Sem
theorem levels_of {c : Ctl} {cyc : Bool} (h : (checkV c cyc).2.2 = 0) : ∀ s, s ∈ c → s.rels.length ≤ 12 ∧ ∀ r, r ∈ s.rels → 0 ≤ r.level ∧ r.level ≤ 1000 := by
  obtain ⟨_, _, _, hall⟩ := right_of h
  intro s hs
  obtain ⟨i, hi⟩ := List.mem_iff_getElem?.1 hs
  have hil : i < c.length := by
    rcases Nat.lt_or_ge i c.length with h | h
    · exact h
    · rw [List.getElem?_eq_none h] at hi; cases hi
  have hE := hall i hil
  have hv : svcV c i = 0 := by
    apply Classical.byContradiction
    intro hv
    rw [svcE_svc hv] at hE
    exact hv hE
  have hrl : relsLen c i = s.rels.length := by unfold relsLen; rw [hi]
  have hr0 : ∀ k, k < s.rels.length → relV c i k = 0 := by
    intro k
    induction k using Nat.strongRecOn with
    | _ k ih =>
      intro hk
      apply Classical.byContradiction
      intro hne
      rw [svcE_rel hv (by rw [hrl]; exact hk) (fun j hj => ih j hj (by omega)) hne] at hE
      exact hne hE
  refine ⟨?_, fun r hr => ?_⟩
  · unfold svcV at hv
    rw [hi] at hv
    simp only at hv
    split at hv
    · omega
    · split at hv
      · omega
      · split at hv
        · omega
        · omega
  · obtain ⟨k, hk⟩ := List.mem_iff_getElem?.1 hr
    have hkl : k < s.rels.length := by
      rcases Nat.lt_or_ge k s.rels.length with h | h
      · exact h
      · rw [List.getElem?_eq_none h] at hk; cases hk
    have h0 := hr0 k hkl
    unfold relV at h0
    rw [hi] at h0
    simp only [hk] at h0
    split at h0
    · omega
    · split at h0
      · omega
      · split at h0
        · omega
        · rename_i h3
          omega
end Go.Lg.Tryz

set_option linter.unusedVariables false
set_option linter.unusedSimpArgs false
namespace Go.Lg
open Go Go.RowKit
section
variable {P : Program} {G : Env} {n : Nat} {tab : Tab} {m : Store}
theorem flat_at {es : Nat} (hpos : 0 < es) : ∀ {xs : List T}, (∀ x, x ∈ xs → x.cells.length = es) → (xs.flatMap T.cells).length = xs.length * es ∧ ∀ k, (xs.flatMap T.cells)[k]? = (xs[k / es]?).bind fun x => x.cells[k % es]?
  | [], _ => ⟨by simp, fun k => by simp⟩
  | x :: xs, h => by
    obtain ⟨h1, h2⟩ := flat_at hpos (xs := xs) (fun y hy => h y (List.mem_cons_of_mem _ hy))
    have hx := h x (List.mem_cons_self ..)
    refine ⟨by rw [List.flatMap_cons, List.length_append, h1, hx, List.length_cons, Nat.succ_mul]; omega, fun k => ?_⟩
    rw [List.flatMap_cons]
    rcases Nat.lt_or_ge k es with hk | hk
    · rw [List.getElem?_append_left (by omega), Nat.div_eq_of_lt hk, Nat.mod_eq_of_lt hk]; rfl
    · rw [List.getElem?_append_right (by omega), h2, hx]
      have e1 : k / es = (k - es) / es + 1 := by
        rw [show k = (k - es) + es by omega, Nat.add_div_right _ hpos]; simp
      have e2 : k % es = (k - es) % es := by
        rw [show k = (k - es) + es by omega, Nat.add_mod_right]; simp
      rw [e1, e2, List.getElem?_cons_succ]
theorem flat_one : ∀ {xs : List T}, (∀ x, x ∈ xs → x.cells = [x]) → xs.flatMap T.cells = xs
  | [], _ => rfl
  | x :: xs, h => by
    rw [List.flatMap_cons, h x (List.mem_cons_self ..), flat_one (fun y hy => h y (List.mem_cons_of_mem _ hy))]; rfl
theorem RawRel.blk {w : World} {M : Nat → Nat → Prop} {e : TypeId} {xs : List T} {v : Value} {o : Option Nat} (h : RawRel P w M e true xs v o) (hne : xs ≠ []) {ie : TypeInfo} (hie : P.info? e = some ie) (hpos : 0 < ie.size) :
    ∃ b cap cs, o = some b ∧ v = .slice (some ⟨b, 0, none⟩) xs.length cap ∧ xs.length ≤ cap ∧ w.heap[b]? = some (.cells cs e (0, 0)) ∧ cs.size = ((xs.flatMap T.cells).map AV.tr ++ List.replicate ((cap - xs.length) * ie.size) AV.unk).length ∧ (∀ k, ¬ M b k) ∧
      (∀ (k : Nat) (u : Value), cs[k]? = some u → u.oneCell' = true) ∧ ∀ (Ow : Loc → Nat → Option Nat) (k : Nat) (y : AV) (u : Value) (q : Option Nat), ((xs.flatMap T.cells).map AV.tr ++ List.replicate ((cap - xs.length) * ie.size) AV.unk)[k]? = some y → cs[k]? = some u → SRel P w M Ow y u q := by
  obtain ⟨i, hi, hx, h⟩ := h
  obtain rfl : i = ie := by rw [hie] at hi; exact (Option.some.inj hi).symm
  rcases h with ⟨rfl, _⟩ | ⟨b, off, cap, cs, rfl, rfl, hz, hh, hs, hzs, hc, hn, h1, hr⟩
  · exact absurd rfl hne
  · obtain rfl := hz rfl
    have hzs := hzs rfl
    obtain ⟨f1, f2⟩ := flat_at hpos hx
    refine ⟨b, cap, cs, rfl, rfl, hc, hh, ?_, hn, h1, ?_⟩
    · rw [List.length_append, List.length_map, List.length_replicate, f1, ← Nat.add_mul, hzs]; congr 1; omega
    · intro Ow k y u q hy hu
      rcases Nat.lt_or_ge k ((xs.flatMap T.cells).map AV.tr).length with hk | hk
      · rw [List.getElem?_append_left hk, List.getElem?_map] at hy
        obtain ⟨t, ht, rfl⟩ := Option.map_eq_some_iff.1 hy
        rw [f2] at ht
        obtain ⟨x, hx1, hx2⟩ := Option.bind_eq_some_iff.1 ht
        obtain ⟨u', hu', hru⟩ := hr _ _ _ _ hx1 hx2
        have e : 0 + k / i.size * i.size + k % i.size = k := by rw [Nat.zero_add, Nat.mul_comm]; exact Nat.div_add_mod k i.size
        rw [e, hu] at hu'
        obtain rfl := Option.some.inj hu'
        exact VRel.tr _ _ hru
      · rw [List.getElem?_append_right hk] at hy
        have := List.eq_of_mem_replicate (List.mem_of_getElem? hy)
        subst this; exact VRel.unk _
theorem Rel.addblk' {Γ : Ctx} {M : Nat → Nat → Prop} {Ow : Loc → Nat → Option Nat} {a : Act} {w : World} (h : Rel P Γ M Ow n m a w) {κ : Loc} (hk : κ.isBlk = true) (hpn : Γ.pin κ = none) (hr : refsM κ m = false) {b : Nat} {cs : Array Value} {ty : TypeId} {cells : List AV}
    (hb : w.heap[b]? = some (.cells cs ty (0, 0))) (hu : ∀ l i, Ow l i ≠ some b) (hbl : b < w.heap.size) (h0 : Γ.own0 b ∨ Γ.w0.heap.size ≤ b) (hm : ∀ o, ¬ M b o) (hs : cs.size = cells.length)
    (h1 : ∀ (i : Nat) (v : Value), cs[i]? = some v → v.oneCell' = true) (hc : ∀ (i : Nat) (y : AV) (v : Value), cells[i]? = some y → cs[i]? = some v → SRel P w M Ow y v none)
    (hrc : refsL κ cells = false) :
    Rel P Γ M (fun l i => if l = κ then (if i = 0 then some b else none) else Ow l i) n ((κ, .blk ty cells) :: m) a w := by
  have key : ∀ {x : AV} {v : Value} {o : Option Nat}, ¬ Refs κ x → SRel P w M Ow x v o → SRel P w M (fun l i => if l = κ then (if i = 0 then some b else none) else Ow l i) x v o := by
    intro x v o hx hv
    refine hv.mono (fun b o h => ⟨h, rfl⟩) ?_ (fun b hb => ⟨hb, fun cs ty h => h, fun k h => h⟩)
    intro κ' b' _ hr' e
    have : κ' ≠ κ := fun e' => hx (e' ▸ hr')
    simp only [if_neg this]; exact e
  exact {
    size := h.size
    defers := h.defers
    slot := by
      intro t v hv
      have hne : (Loc.s t) ≠ κ := fun e => by rw [← e] at hk; cases hk
      rw [lk_ne _ _ (fun e => hne e.symm)] at hv
      have := key (refsM_lk hr hv) (h.slot t v hv)
      simpa only [if_neg hne] using this
    blk := by
      intro κ' v hk' hv
      rw [lk_cons] at hv
      split at hv
      · rename_i e; subst e
        obtain rfl := Option.some.inj hv
        refine ⟨ty, cells, b, cs, rfl, by simp, hb, hs, hm, h1, ?_⟩
        intro i y v hy hv'
        simp only [if_true, if_neg (Nat.succ_ne_zero i)]
        refine key ?_ (hc i y v hy hv')
        intro hr'
        have := refsL_mem (List.mem_of_getElem? hy) (refs_of hr')
        rw [hrc] at this; cases this
      · rename_i e
        obtain ⟨ty', cells', b', cs', rfl, ho', hh', hs', hn', h1', hc'⟩ := h.blk κ' v hk' hv
        have e' : κ' ≠ κ := fun x => e x.symm
        refine ⟨ty', cells', b', cs', rfl, by simp only [if_neg e']; exact ho', hh', hs', hn', h1', ?_⟩
        intro i y v hy hv'
        have hx : ¬ Refs κ y := fun hr' => refsM_lk hr hv (.blk ty' cells' y (List.mem_of_getElem? hy) hr')
        have := key hx (hc' i y v hy hv')
        simpa only [if_neg e'] using this
    inj := by
      intro l i l' i' c hl hl'
      by_cases e : l = κ <;> by_cases e' : l' = κ
      · subst e; subst e'
        simp only [if_true] at hl hl'
        split at hl <;> split at hl' <;> simp_all
      · subst e
        simp only [if_true, if_neg e'] at hl hl'
        split at hl
        · obtain rfl := Option.some.inj hl; exact absurd hl' (hu _ _)
        · cases hl
      · subst e'
        simp only [if_true, if_neg e] at hl hl'
        split at hl'
        · obtain rfl := Option.some.inj hl'; exact absurd hl (hu _ _)
        · cases hl'
      · simp only [if_neg e, if_neg e'] at hl hl'
        exact h.inj _ _ _ _ _ hl hl'
    lt := by
      intro l i c hc'
      by_cases e : l = κ
      · simp only [if_pos e] at hc'
        split at hc'
        · obtain rfl := Option.some.inj hc'; exact (Array.getElem?_eq_some_iff.1 hb).1
        · cases hc'
      · simp only [if_neg e] at hc'; exact h.lt _ _ _ hc'
    mine := by
      intro l i c hc'
      by_cases e : l = κ
      · simp only [if_pos e] at hc'
        split at hc'
        · obtain rfl := Option.some.inj hc'; exact h0.elim .inl (fun h => .inr (.inl h))
        · cases hc'
      · simp only [if_neg e] at hc'; exact h.mine _ _ _ hc'
    mlt := h.mlt
    mold := h.mold
    mnew := h.mnew
    fr := h.fr
    pin := fun κ' b' hk' hp => by
      have e : κ' ≠ κ := fun e => by rw [e, hpn] at hp; cases hp
      simp only [if_neg e]; exact h.pin κ' b' hk' hp }
theorem RelX.thaw (hT : TabOk P tab) {Γ : Ctx} {a : Act} {w : World} (h : RelX P Γ n m a w) {s : Nat} {κ : Loc} {e es by' : Nat} {kd : TK} {zs : List AV} {xs : List T} (hs : lk m (.s s) = some (.raw e true xs)) (hne : xs ≠ []) (he : tlk tab e = some ⟨es, by', kd, zs⟩) (hpos : 0 < es)
    (hL : κ.isL = true) (hpn : Γ.pin κ = none) (hf : refsM κ m = false) :
    ∃ cap, xs.length ≤ cap ∧ RelX P Γ n ((.s s, .sl κ xs.length cap) :: (κ, .blk e ((xs.flatMap T.cells).map .tr ++ List.replicate ((cap - xs.length) * es) .unk)) :: m) a w := by
  obtain ⟨M, Ow, hr⟩ := h
  obtain ⟨ie, hie, hsz, _⟩ := hT.info he
  have hsz : ie.size = es := hsz
  subst hsz
  have hv : RawRel P w M e true xs (a.tmps.getD s undef) (Ow (.s s) 0) := hr.slot s _ hs
  obtain ⟨b, cap, cs, ho, ev, hc, hh, hsz, hn, h1, hcs⟩ := hv.blk hne hie hpos
  have hr2 := hr.forget s
  obtain ⟨f1, f2, f3⟩ := hr.forget_free ho
  have h0 : Γ.w0.heap.size ≤ b ∨ Γ.own0 b := f3.symm
  have hf2 : refsM κ ((Loc.s s, AV.unk) :: m) = false := by simp only [refsM, AV.refs, Bool.false_or]; exact hf
  have hrefs : refsL κ ((xs.flatMap T.cells).map AV.tr ++ List.replicate ((cap - xs.length) * ie.size) AV.unk) = false := by
    have : ∀ l : List AV, (∀ y, y ∈ l → y.refs κ = false) → refsL κ l = false := by
      intro l
      induction l with
      | nil => intro _; rfl
      | cons y l ih => intro hl; simp only [refsL, Bool.or_eq_false_iff]; exact ⟨hl y (List.mem_cons_self ..), ih (fun z hz => hl z (List.mem_cons_of_mem _ hz))⟩
    refine this _ fun y hy => ?_
    rcases List.mem_append.1 hy with hy | hy
    · obtain ⟨t, _, rfl⟩ := List.mem_map.1 hy; rfl
    · rw [List.eq_of_mem_replicate hy]; rfl
  have h3 := hr2.addblk' (κ := κ) (Loc.isL_blk hL) hpn hf2 (b := b) hh f1 f2 f3 hn hsz h1 (fun i y v hy hv => hcs _ i y v none hy hv) hrefs
  refine ⟨cap, hc, M, _, (h3.label (t := s) (v' := .sl κ xs.length cap) ?_).sub ?_⟩
  · rw [ev]
    exact .sl κ _ _ b (Loc.isL_blk hL) (by simp) hc
  · intro l v hl
    rw [lk_cons] at hl ⊢
    split
    · rename_i e; rw [if_pos e] at hl; exact hl
    · rename_i e
      rw [if_neg e] at hl
      rw [lk_cons] at hl ⊢
      split
      · rename_i e2; rw [if_pos e2] at hl; exact hl
      · rename_i e2; rw [if_neg e2] at hl; rw [lk_ne _ _ e]; exact hl
theorem Tr.thaw (hT : TabOk P tab) {c : Code} {Q : Exit → Store → Prop} (s : Nat) (κ : Loc) {e es by' : Nat} {kd : TK} {zs : List AV} {xs : List T} (hs : lk m (.s s) = some (.raw e true xs)) (hne : xs ≠ []) (he : tlk tab e = some ⟨es, by', kd, zs⟩) (hpos : 0 < es)
    (hL : κ.isL = true) (hf : (freshB [κ] m && pinB [κ] G.pins) = true) (k : ∀ cap, xs.length ≤ cap → Tr P G n c ((.s s, .sl κ xs.length cap) :: (κ, .blk e ((xs.flatMap T.cells).map .tr ++ List.replicate ((cap - xs.length) * es) .unk)) :: m) Q) : Tr P G n c m Q := fun Γ hΓ a w hr => by
  rw [Bool.and_eq_true] at hf
  have hpn : Γ.pin κ = none := by
    cases hx : Γ.pin κ with
    | none => rfl
    | some b => exact absurd (hΓ.2 κ (by rw [hx]; simp)) (pinB_eq hf.2 κ (by simp))
  obtain ⟨cap, hc, hr'⟩ := hr.thaw hT hs hne he hpos hL hpn (freshB_eq hf.1 κ (by simp))
  exact k cap hc Γ hΓ a w hr'
theorem Rel.forgetcell {Γ : Ctx} {M : Nat → Nat → Prop} {Ow : Loc → Nat → Option Nat} {a : Act} {w : World} (h : Rel P Γ M Ow n m a w) {κ : Loc} (hL : κ.isL = true) {ty : TypeId} {cells : List AV} (hl : lk m κ = some (.blk ty cells)) {off : Nat} (hoff : off < cells.length) :
    Rel P Γ M (setO Ow κ (off + 1) none) n ((κ, .blk ty (cells.set off .unk)) :: m) a w := by
  have hk := Loc.isL_blk hL
  obtain ⟨ty0, cells0, b, cs, e0, ho, hh, hs, hn, h1, hcs⟩ := h.blk κ _ hk hl
  obtain ⟨rfl, rfl⟩ : ty = ty0 ∧ cells = cells0 := by injection e0; exact ⟨‹_›, ‹_›⟩
  have h2 := h.labelblk (κ := κ) hk (v' := .blk ty (cells.set off .unk)) ⟨ty, _, b, cs, rfl, ho, hh, by simp [hs], hn, h1, by
    intro i y u hy hu
    rw [List.getElem?_set] at hy
    split at hy
    · first
        | (obtain rfl := Option.some.inj hy; exact VRel.unk _)
        | (split at hy
           · obtain rfl := Option.some.inj hy; exact VRel.unk _
           · cases hy)
    · exact hcs i y u hy hu⟩
  have hval : isVal κ (off + 1) = true := by cases κ <;> first | rfl | cases hk
  refine h2.setOw (l := κ) (i := off + 1) hval none (fun b hb => by cases hb) (fun t v e' => by rw [e'] at hk; cases hk) ?_
  intro ty' cells' j b' cs' y v _ hlk hj hy hb' hh' hv'
  rw [lk_self] at hlk
  obtain ⟨rfl, rfl⟩ : ty = ty' ∧ cells.set off .unk = cells' := by injection hlk with hlk; injection hlk; exact ⟨‹_›, ‹_›⟩
  obtain rfl : off = j := by omega
  rw [List.getElem?_set_self hoff] at hy
  obtain rfl := Option.some.inj hy
  exact VRel.unk _
theorem Rel.forgetcell_free {Γ : Ctx} {M : Nat → Nat → Prop} {Ow : Loc → Nat → Option Nat} {a : Act} {w : World} (h : Rel P Γ M Ow n m a w) {κ : Loc} (hL : κ.isL = true) {off b : Nat} (hb : Ow κ (off + 1) = some b) :
    (∀ l i, setO Ow κ (off + 1) none l i ≠ some b) ∧ b < w.heap.size ∧ (Γ.own0 b ∨ Γ.w0.heap.size ≤ b) := by
  refine ⟨fun l i e' => ?_, h.lt _ _ _ hb, h.mineL (fun j e => by rw [e] at hL; cases hL) hb⟩
  by_cases e2 : l = κ ∧ i = off + 1
  · obtain ⟨rfl, rfl⟩ := e2; rw [setO_self] at e'; cases e'
  · rw [setO_ne _ e2] at e'; exact e2 (h.inj _ _ _ _ _ e' hb)
theorem Rel.labelcell {Γ : Ctx} {M : Nat → Nat → Prop} {Ow : Loc → Nat → Option Nat} {a : Act} {w : World} (h : Rel P Γ M Ow n m a w) {κ : Loc} (hk : κ.isBlk = true) {ty : TypeId} {cells : List AV} (hl : lk m κ = some (.blk ty cells)) {off : Nat} {y' : AV}
    (hy : ∀ b cs u, Ow κ 0 = some b → w.heap[b]? = some (.cells cs ty (0, 0)) → cs[off]? = some u → SRel P w M Ow y' u (Ow κ (off + 1))) : Rel P Γ M Ow n ((κ, .blk ty (cells.set off y')) :: m) a w := by
  obtain ⟨ty0, cells0, b, cs, e0, ho, hh, hs, hn, h1, hcs⟩ := h.blk κ _ hk hl
  obtain ⟨rfl, rfl⟩ : ty = ty0 ∧ cells = cells0 := by injection e0; exact ⟨‹_›, ‹_›⟩
  refine h.labelblk hk ⟨ty, _, b, cs, rfl, ho, hh, by simp [hs], hn, h1, ?_⟩
  intro i y u hyi hu
  rw [List.getElem?_set] at hyi
  split at hyi
  · rename_i ei
    subst ei
    split at hyi
    · obtain rfl := Option.some.inj hyi; exact hy b cs u ho hh hu
    · cases hyi
  · exact hcs i y u hyi hu
theorem refsL_flat {κ : Loc} (xs : List T) (k : Nat) : refsL κ ((xs.flatMap T.cells).map AV.tr ++ List.replicate k AV.unk) = false := by
  have : ∀ l : List AV, (∀ y, y ∈ l → y.refs κ = false) → refsL κ l = false := by
    intro l
    induction l with
    | nil => intro _; rfl
    | cons y l ih => intro hl; simp only [refsL, Bool.or_eq_false_iff]; exact ⟨hl y (List.mem_cons_self ..), ih (fun z hz => hl z (List.mem_cons_of_mem _ hz))⟩
  refine this _ fun y hy => ?_
  rcases List.mem_append.1 hy with hy | hy
  · obtain ⟨t, _, rfl⟩ := List.mem_map.1 hy; rfl
  · rw [List.eq_of_mem_replicate hy]; rfl
theorem refsL_set {κ : Loc} {y : AV} (hy : y.refs κ = false) : ∀ {l : List AV} {i : Nat}, refsL κ l = false → refsL κ (l.set i y) = false
  | [], _, _ => rfl
  | x :: l, 0, h => by simp only [refsL, Bool.or_eq_false_iff] at h; simp only [List.set_cons_zero, refsL, Bool.or_eq_false_iff]; exact ⟨hy, h.2⟩
  | x :: l, i + 1, h => by simp only [refsL, Bool.or_eq_false_iff] at h; simp only [List.set_cons_succ, refsL, Bool.or_eq_false_iff]; exact ⟨h.1, refsL_set hy h.2⟩
theorem RelX.thawC (hT : TabOk P tab) {Γ : Ctx} {a : Act} {w : World} (h : RelX P Γ n m a w) {κ0 κ : Loc} {ty : TypeId} {cells : List AV} {off : Nat} {e es by' : Nat} {kd : TK} {zs : List AV} {xs : List T} (hL0 : κ0.isL = true) (hb : lk m κ0 = some (.blk ty cells)) (hc : cells[off]? = some (.raw e true xs)) (hne : xs ≠ [])
    (he : tlk tab e = some ⟨es, by', kd, zs⟩) (hpos : 0 < es) (hL : κ.isL = true) (hn0 : κ0.eqb κ = false) (hpn : Γ.pin κ = none) (hf : refsM κ m = false) :
    ∃ cap, xs.length ≤ cap ∧ RelX P Γ n ((κ0, .blk ty (cells.set off (.sl κ xs.length cap))) :: (κ, .blk e ((xs.flatMap T.cells).map .tr ++ List.replicate ((cap - xs.length) * es) .unk)) :: m) a w := by
  obtain ⟨M, Ow, hr⟩ := h
  obtain ⟨ie, hie, hsz, _⟩ := hT.info he
  have hsz : ie.size = es := hsz
  subst hsz
  have hk0 := Loc.isL_blk hL0
  have hne0 : κ0 ≠ κ := fun e => by rw [e, Loc.eqb_self] at hn0; cases hn0
  have hoff : off < cells.length := by
    rcases Nat.lt_or_ge off cells.length with h | h
    · exact h
    · rw [List.getElem?_eq_none h] at hc; cases hc
  obtain ⟨ty0, cells0, b0, cs0, e0, ho0, hh0, hs0, hn00, h10, hcs0⟩ := hr.blk κ0 _ hk0 hb
  obtain ⟨rfl, rfl⟩ : ty = ty0 ∧ cells = cells0 := by injection e0; exact ⟨‹_›, ‹_›⟩
  have hoff' : off < cs0.size := by omega
  have hv : RawRel P w M e true xs cs0[off] (Ow κ0 (off + 1)) := hcs0 off _ cs0[off] hc (by simp [hoff'])
  obtain ⟨b, cap, cs, ho, ev, hcap, hh, hsz, hn, h1, hcs⟩ := hv.blk hne hie hpos
  have hr2 := hr.forgetcell hL0 hb hoff
  obtain ⟨f1, f2, f3⟩ := hr.forgetcell_free hL0 ho
  have hcr : refsL κ cells = false := by
    have := refsM_lk' hf hb
    simpa only [AV.refs] using this
  have hf2 : refsM κ ((κ0, AV.blk ty (cells.set off .unk)) :: m) = false := by
    simp only [refsM, AV.refs, Bool.or_eq_false_iff]
    exact ⟨refsL_set rfl hcr, hf⟩
  have h3 := hr2.addblk' (κ := κ) (Loc.isL_blk hL) hpn hf2 (b := b) hh f1 f2 f3 hn hsz h1 (fun i y v hy hv => hcs _ i y v none hy hv) (refsL_flat _ _)
  have h4 := h3.labelcell (κ := κ0) hk0 (ty := ty) (cells := cells.set off .unk) (off := off) (y' := .sl κ xs.length cap) (by rw [lk_ne _ _ (fun e => hne0 e.symm), lk_self]) (by
    intro b' cs' u hb' hh' hu
    simp only [if_neg hne0] at hb'
    rw [setO_ne _ (fun e => by omega), ho0] at hb'
    obtain rfl := Option.some.inj hb'
    rw [hh0] at hh'
    obtain rfl : cs0 = cs' := by injection hh' with hh'; injection hh'
    have : u = cs0[off] := by simpa [hoff'] using hu.symm
    rw [this, ev]
    exact VRel.sl κ _ _ b (Loc.isL_blk hL) (by simp) hcap)
  refine ⟨cap, hcap, M, _, h4.sub ?_⟩
  intro l v hl
  rw [List.set_set]
  rw [lk_cons] at hl ⊢
  split
  · rename_i e; rw [if_pos e] at hl; exact hl
  · rename_i e
    rw [if_neg e] at hl
    rw [lk_cons] at hl ⊢
    split
    · rename_i e2; rw [if_pos e2] at hl; exact hl
    · rename_i e2; rw [if_neg e2] at hl; rw [lk_ne _ _ e]; exact hl
theorem Tr.thawC (hT : TabOk P tab) {c : Code} {Q : Exit → Store → Prop} (κ0 κ : Loc) (off : Nat) {ty : TypeId} {cells : List AV} {e es by' : Nat} {kd : TK} {zs : List AV} {xs : List T} (hL0 : κ0.isL = true) (hb : lk m κ0 = some (.blk ty cells)) (hc : cells[off]? = some (.raw e true xs)) (hne : xs ≠ [])
    (he : tlk tab e = some ⟨es, by', kd, zs⟩) (hpos : 0 < es) (hL : κ.isL = true) (hn0 : κ0.eqb κ = false) (hf : (freshB [κ] m && pinB [κ] G.pins) = true)
    (k : ∀ cap, xs.length ≤ cap → Tr P G n c ((κ0, .blk ty (cells.set off (.sl κ xs.length cap))) :: (κ, .blk e ((xs.flatMap T.cells).map .tr ++ List.replicate ((cap - xs.length) * es) .unk)) :: m) Q) : Tr P G n c m Q := fun Γ hΓ a w hr => by
  rw [Bool.and_eq_true] at hf
  have hpn : Γ.pin κ = none := by
    cases hx : Γ.pin κ with
    | none => rfl
    | some b => exact absurd (hΓ.2 κ (by rw [hx]; simp)) (pinB_eq hf.2 κ (by simp))
  obtain ⟨cap, hcap, hr'⟩ := hr.thawC hT hL0 hb hc hne he hpos hL hn0 hpn (freshB_eq hf.1 κ (by simp))
  exact k cap hcap Γ hΓ a w hr'
theorem freeze_rep {w : World} {M : Nat → Nat → Prop} {Ow : Loc → Nat → Option Nat} {κ : Loc} {b len cap es : Nat} {e : TypeId} {cells : List AV} {cs : Array Value} {xs : List T} (hh : w.heap[b]? = some (.cells cs e (0, 0))) (hs' : cs.size = cells.length)
    (h1 : ∀ (i : Nat) (v : Value), cs[i]? = some v → v.oneCell' = true) (hcs : ∀ (i : Nat) (y : AV) (v : Value), cells[i]? = some y → cs[i]? = some v → SRel P w M Ow y v (Ow κ (i + 1))) (hcap : len ≤ cap)
    (hlen : xs.length = len) (hsz : len * es ≤ cells.length) (hx : ∀ x, x ∈ xs → x.cells.length = es) (hc : ∀ (i j : Nat) (x y : T), xs[i]? = some x → x.cells[j]? = some y → ∃ v, cells[i * es + j]? = some v ∧ v.deg = .tr y) :
    Rep w (fun c o => M c o ∨ (c = b ∧ o < len * es)) (.ls xs) (.slice (some ⟨b, 0, none⟩) len cap) := by
  have lin : ∀ {i j : Nat}, i < xs.length → j < es → i * es + j < len * es := by
    intro i j hi hj
    have : (i + 1) * es ≤ len * es := Nat.mul_le_mul_right _ (by omega)
    rw [Nat.succ_mul] at this; omega
  rw [← hlen]
  by_cases h0 : xs.length = 0
  · obtain rfl := List.eq_nil_of_length_eq_zero h0
    exact .nil _ _
  · refine .ls xs b 0 es cap (fun i j => cs.getD (i * es + j) undef) (by omega) hx ?_ ?_ ?_ ?_
    · intro i j hi hj; exact .inr ⟨rfl, by rw [Nat.zero_add, hlen]; exact lin hi hj⟩
    · intro i j hi hj
      have := lin hi hj
      have hl : i * es + j < cs.size := by omega
      simp [World.cell?, hh, hl]
    · intro i j hi hj
      have := lin hi hj
      have hl : i * es + j < cs.size := by omega
      have := h1 (i * es + j) cs[i * es + j] (by simp [hl])
      simpa [hl] using this
    · intro i j x y hxi hyj
      obtain ⟨v, hv1, hv2⟩ := hc i j x y hxi hyj
      have hil : i < xs.length := by
        rcases Nat.lt_or_ge i xs.length with h | h
        · exact h
        · rw [List.getElem?_eq_none h] at hxi; cases hxi
      have hjl : j < es := by
        have := hx x (List.mem_of_getElem? hxi)
        rcases Nat.lt_or_ge j x.cells.length with h | h
        · omega
        · rw [List.getElem?_eq_none h] at hyj; cases hyj
      have := lin hil hjl
      have hl : i * es + j < cs.size := by omega
      have h3 := deg_vrel (hcs (i * es + j) v cs[i * es + j] hv1 (by simp [hl]))
      rw [hv2] at h3
      have h4 : Rep w M y cs[i * es + j] := by cases h3 with | tr _ _ h => exact h
      have e : cs.getD (i * es + j) undef = cs[i * es + j] := by simp [hl]
      rw [e]
      exact h4.mono (fun c o hc => ⟨.inl hc, rfl⟩)
theorem RelX.freezeC {Γ : Ctx} {a : Act} {w : World} (h : RelX P Γ n m a w) {κ0 κ : Loc} {ty : TypeId} {cells0 : List AV} {off len cap es : Nat} {e : TypeId} {cells : List AV} {xs : List T} (hL0 : κ0.isL = true) (hb0 : lk m κ0 = some (.blk ty cells0)) (hc0 : cells0[off]? = some (.sl κ len cap)) (hb : lk m κ = some (.blk e cells)) (hL : κ.isL = true)
    (hn0 : κ0.eqb κ = false) (hlen : xs.length = len) (hsz : len * es ≤ cells.length) (hx : ∀ x, x ∈ xs → x.cells.length = es) (hc : ∀ (i j : Nat) (x y : T), xs[i]? = some x → x.cells[j]? = some y → ∃ v, cells[i * es + j]? = some v ∧ v.deg = .tr y) :
    RelX P Γ n ((κ0, .blk ty (cells0.set off (.tr (.ls xs)))) :: delL κ m) a w := by
  obtain ⟨M, Ow, hr⟩ := h
  have hk0 := Loc.isL_blk hL0
  have hkb := Loc.isL_blk hL
  have hne0 : κ0 ≠ κ := fun e => by rw [e, Loc.eqb_self] at hn0; cases hn0
  obtain ⟨ty0, cells', b0, cs0, e0, ho0, hh0, hs0, hn00, h10, hcs0⟩ := hr.blk κ0 _ hk0 hb0
  obtain ⟨rfl, rfl⟩ : ty = ty0 ∧ cells0 = cells' := by injection e0; exact ⟨‹_›, ‹_›⟩
  have hoff : off < cells0.length := by
    rcases Nat.lt_or_ge off cells0.length with h | h
    · exact h
    · rw [List.getElem?_eq_none h] at hc0; cases hc0
  have hoff' : off < cs0.size := by omega
  have hv : VRel w M (fun κ => Ow κ 0) (.sl κ len cap) cs0[off] := hcs0 off _ cs0[off] hc0 (by simp [hoff'])
  obtain ⟨b, ho, hcap, hval⟩ : ∃ b, Ow κ 0 = some b ∧ len ≤ cap ∧ cs0[off] = .slice (some ⟨b, 0, none⟩) len cap := by
    generalize cs0[off] = q at hv
    cases hv with | sl _ _ _ b hk hb hc => exact ⟨b, hb, hc, rfl⟩
  obtain ⟨ty1, cells1, b1, cs, e1, ho', hh, hs', hn, h1, hcs⟩ := hr.blk κ _ hkb hb
  obtain ⟨rfl, rfl⟩ : e = ty1 ∧ cells = cells1 := by injection e1 with e1 e2; exact ⟨e1, e2⟩
  obtain rfl : b = b1 := by rw [ho] at ho'; exact Option.some.inj ho'
  have hd : Rel P Γ M Ow n (delL κ m) a w := hr.sub (fun l v hl => by
    rw [lk_del] at hl
    split at hl
    · cases hl
    · exact hl)
  have hM := hd.addM (N := len * es) hL ho (by rw [lk_del, if_pos rfl])
  refine ⟨_, Ow, hM.labelcell hk0 (ty := ty) (cells := cells0) (off := off) (by rw [lk_del, if_neg hne0]; exact hb0) ?_⟩
  intro b' cs' u hb' hh' hu
  rw [ho0] at hb'
  obtain rfl := Option.some.inj hb'
  rw [hh0] at hh'
  obtain rfl : cs0 = cs' := by injection hh' with hh'; injection hh'
  have : u = cs0[off] := by simpa [hoff'] using hu.symm
  rw [this, hval]
  exact VRel.tr _ _ (freeze_rep hh hs' h1 hcs hcap hlen hsz hx hc)
end
end Go.Lg

set_option linter.unusedVariables false
set_option linter.unusedSimpArgs false
namespace Go.Lg.Tryz
open Go Go.Proofs Go.RowKit Go.Lib Go.Lg.Sem
def plAt (c : Ctl) (vs : List Int) (i : Nat) : Pl := match vs[i]? with
  | some v => match relAt c i v with
    | some r => ⟨floatOfInt .f64 v, floatOfInt .f64 (2 * r.level), v, 2 * r.level⟩
    | none => ⟨floatOfInt .f64 0, floatOfInt .f64 0, 0, 0⟩
  | none => ⟨floatOfInt .f64 0, floatOfInt .f64 0, 0, 0⟩
def pls (c : Ctl) (vs : List Int) : List Pl := (List.range vs.length).map (plAt c vs)
theorem pls_t (c : Ctl) (vs : List Int) : (pls c vs).map plT = (List.range vs.length).map (placeAt c vs) := by
  unfold pls
  rw [List.map_map]
  apply List.map_congr_left
  intro i _
  show plT (plAt c vs i) = placeAt c vs i
  unfold plAt placeAt
  cases vs[i]? with
  | none => rfl
  | some v =>
    simp only
    cases relAt c i v <;> rfl
theorem rightV_at {q : Ctl} {vs : List Int} (hr : rightV q vs = true) : vs.length = q.length ∧ ∀ k, k < vs.length → ∃ v s r, vs[k]? = some v ∧ q[k]? = some s ∧ 0 ≤ v ∧ s.rels[v.toNat]? = some r ∧ relAt q k v = some r := by
  unfold rightV at hr
  rw [Bool.and_eq_true, decide_eq_true_eq, List.all_eq_true] at hr
  obtain ⟨hlen, hall⟩ := hr
  refine ⟨hlen, ?_⟩
  intro k hk
  obtain ⟨v, hv⟩ : ∃ v, vs[k]? = some v := ⟨_, List.getElem?_eq_getElem hk⟩
  obtain ⟨s, hs⟩ : ∃ s, q[k]? = some s := ⟨_, List.getElem?_eq_getElem (by omega)⟩
  have hok := hall k (List.mem_range.2 hk)
  unfold okAt at hok
  rw [hv] at hok
  simp only at hok
  obtain ⟨r, hrel⟩ := Option.isSome_iff_exists.1 hok
  have hv0 : 0 ≤ v := by
    rcases Int.lt_or_le v 0 with h | h
    · rw [relAt_neg h] at hrel; cases hrel
    · exact h
  exact ⟨v, s, r, hv, hs, hv0, by rw [relAt_pos (s := s) (by simpa using hs) hv0] at hrel; exact hrel, hrel⟩
theorem pls_ok {q : Ctl} {vs : List Int} (hr : rightV q vs = true) (hlv : ∀ s, s ∈ q → s.rels.length ≤ 12 ∧ ∀ r, r ∈ s.rels → 0 ≤ r.level ∧ r.level ≤ 1000) : ∀ p, p ∈ pls q vs → p.ok := by
  intro p hp
  unfold pls at hp
  obtain ⟨i, hi, rfl⟩ := List.mem_map.1 hp
  obtain ⟨v, s, r, hv, hs, hv0, hrv, hrel⟩ := (rightV_at hr).2 i (List.mem_range.1 hi)
  obtain ⟨h12, hl⟩ := hlv s (List.mem_of_getElem? hs)
  obtain ⟨l0, l1⟩ := hl r (List.mem_of_getElem? hrv)
  have hvl := (List.getElem?_eq_some_iff.1 hrv).1
  have e : plAt q vs i = ⟨floatOfInt .f64 v, floatOfInt .f64 (2 * r.level), v, 2 * r.level⟩ := by
    unfold plAt; rw [hv]; simp only; rw [hrel]
  rw [e]
  exact ⟨OkX.of (by omega) (by omega), OkX.of (by omega) (by omega), by show 2 * r.level ≤ 100000; omega⟩
def vAt (vs : List Int) (k : Nat) : Int := vs.getD k 0
theorem good_iff {q : Ctl} (hlv : ∀ s, s ∈ q → s.rels.length ≤ 12 ∧ ∀ r, r ∈ s.rels → 0 ≤ r.level ∧ r.level ≤ 1000) {vs : List Int} (hr : rightV q vs = true) : goodB q (pls q vs) = true ↔ ∀ i j, j < i → i < vs.length → fitsB q i (vAt vs i) j (vAt vs j) = true := by
  obtain ⟨hlen, hat⟩ := rightV_at hr
  have hl : (pls q vs).length = vs.length := by unfold pls; simp
  have hpl : ∀ k, k < vs.length → (pls q vs)[k]? = some (plAt q vs k) := fun k hk => by unfold pls; rw [List.getElem?_map, List.getElem?_range hk]; rfl
  have hv : ∀ k, k < vs.length → (plAt q vs k).v = vAt vs k := fun k hk => by
    obtain ⟨v, s, r, hv, hs, hv0, hrv, hrel⟩ := hat k hk
    unfold plAt vAt; rw [List.getD_eq_getElem?_getD, hv]; simp only; rw [hrel]; rfl
  have hst : ∀ k, k < vs.length → standsB q k (plAt q vs k).v (plAt q vs k).f = true := fun k hk => by
    obtain ⟨v, s, r, hv, hs, hv0, hrv, hrel⟩ := hat k hk
    have e : plAt q vs k = ⟨floatOfInt .f64 v, floatOfInt .f64 (2 * r.level), v, 2 * r.level⟩ := by
      unfold plAt; rw [hv]; simp only; rw [hrel]
    rw [e]
    show standsB q k v (2 * r.level) = true
    have l0 := ((hlv s (List.mem_of_getElem? hs)).2 r (List.mem_of_getElem? hrv)).1
    unfold standsB
    rw [hrel]
    simp only [Bool.and_eq_true, decide_eq_true_eq]
    omega
  unfold goodB
  rw [Bool.and_eq_true, decide_eq_true_eq, List.all_eq_true, hl]
  constructor
  · rintro ⟨_, h⟩ i j hj hi
    have := h i (List.mem_range.2 hi)
    unfold goodAt at this
    rw [hpl i hi] at this
    simp only at this
    rw [Bool.and_eq_true, List.all_eq_true] at this
    have := this.2 j (List.mem_range.2 hj)
    rw [hpl j (by omega)] at this
    simp only at this
    rw [hv i hi, hv j (by omega)] at this
    exact this
  · intro h
    refine ⟨hlen, fun i hi => ?_⟩
    have hi := List.mem_range.1 hi
    unfold goodAt
    rw [hpl i hi]
    simp only
    rw [Bool.and_eq_true, List.all_eq_true]
    refine ⟨hst i hi, fun j hj => ?_⟩
    have hj := List.mem_range.1 hj
    rw [hpl j (by omega)]
    simp only
    rw [hv i hi, hv j (by omega)]
    exact h i j hj hi
end Go.Lg.Tryz

set_option linter.unusedVariables false
set_option linter.unusedSimpArgs false
namespace Go.Lg
open Go Go.RowKit
section
variable {P : Program} {G : Env} {n : Nat} {tab : Tab} {m : Store}
end
end Go.Lg

set_option linter.unusedVariables false
set_option linter.unusedSimpArgs false
namespace Go.Lg
open Go Go.RowKit
section
variable {P : Program} {G : Env} {n : Nat} {tab : Tab} {m : Store}
def swp (κ κ' l : Loc) : Loc := match κ.eqb l with
  | true => κ'
  | false => l
mutual
def AV.rn (κ κ' : Loc) : AV → AV
  | .ptr k o => .ptr (swp κ κ' k) o
  | .sl k a b => .sl (swp κ κ' k) a b
  | .agg xs => .agg (rnL κ κ' xs)
  | .tup xs => .tup (rnL κ κ' xs)
  | .fn f xs => .fn f (rnL κ κ' xs)
  | .blk t xs => .blk t (rnL κ κ' xs)
  | v => v
def rnL (κ κ' : Loc) : List AV → List AV
  | [] => []
  | x :: xs => x.rn κ κ' :: rnL κ κ' xs
end
theorem rnL_map (κ κ' : Loc) : ∀ xs : List AV, rnL κ κ' xs = xs.map (·.rn κ κ')
  | [] => rfl
  | x :: xs => by simp only [rnL, List.map_cons]; rw [rnL_map κ κ' xs]
theorem swp_self (κ κ' : Loc) : swp κ κ' κ = κ' := by unfold swp; rw [Loc.eqb_self]
theorem swp_ne {κ κ' l : Loc} (h : κ ≠ l) : swp κ κ' l = l := by unfold swp; rw [Loc.eqb_ne h]
theorem swp_blk {κ κ' l : Loc} (h : κ'.isBlk = true) (hl : l.isBlk = true) : (swp κ κ' l).isBlk = true := by
  unfold swp; split <;> assumption
theorem rn_vrel {w : World} {M : Nat → Nat → Prop} {bk bk' : Loc → Option Nat} {κ κ' : Loc} (hk' : κ'.isBlk = true) (hbk : ∀ l b, l ≠ κ' → bk l = some b → bk' (swp κ κ' l) = some b) {y : AV} {v : Value} (h : VRel w M bk y v) : (∀ l, Refs l y → l ≠ κ') → VRel w M bk' (y.rn κ κ') v := by
  induction h with
  | unk v => intro _; exact .unk v
  | und => intro _; exact .und
  | tr t v h => intro _; exact .tr t v h
  | ptr k off b hk h => intro hy; exact .ptr _ off b (swp_blk hk' hk) (hbk k b (hy k (.ptr off)) h)
  | sl k len cap b hk h hc => intro hy; exact .sl _ len cap b (swp_blk hk' hk) (hbk k b (hy k (.sl len cap)) h) hc
  | ep cs off b o f h1 h2 h3 h4 => intro _; exact .ep cs off b o f h1 h2 h3 h4
  | agg xs cs h1 h2 h3 ih =>
    intro hy
    simp only [AV.rn]
    rw [rnL_map]
    refine .agg _ _ (by simpa using h1) h2 fun i x v hx hv => ?_
    rw [List.getElem?_map] at hx
    obtain ⟨x0, hx0, rfl⟩ := Option.map_eq_some_iff.1 hx
    exact ih i x0 v hx0 hv (fun l hl => hy l (.agg xs x0 (List.mem_of_getElem? hx0) hl))
  | tup xs cs h1 h2 ih =>
    intro hy
    simp only [AV.rn]
    rw [rnL_map]
    refine .tup _ _ (by simpa using h1) fun i x v hx hv => ?_
    rw [List.getElem?_map] at hx
    obtain ⟨x0, hx0, rfl⟩ := Option.map_eq_some_iff.1 hx
    exact ih i x0 v hx0 hv (fun l hl => hy l (.tup xs x0 (List.mem_of_getElem? hx0) hl))
  | fn f xs cs h1 h2 ih =>
    intro hy
    simp only [AV.rn]
    rw [rnL_map]
    refine .fn f _ _ (by simpa using h1) fun i x v hx hv => ?_
    rw [List.getElem?_map] at hx
    obtain ⟨x0, hx0, rfl⟩ := Option.map_eq_some_iff.1 hx
    exact ih i x0 v hx0 hv (fun l hl => hy l (.fn f xs x0 (List.mem_of_getElem? hx0) hl))
theorem rn_srel {w : World} {M : Nat → Nat → Prop} {Ow Ow' : Loc → Nat → Option Nat} {κ κ' : Loc} (hk' : κ'.isBlk = true) (hbk : ∀ l b, l ≠ κ' → Ow l 0 = some b → Ow' (swp κ κ' l) 0 = some b) {y : AV} {v : Value} {o : Option Nat} (h : SRel P w M Ow y v o) (hy : ∀ l, Refs l y → l ≠ κ') : SRel P w M Ow' (y.rn κ κ') v o := by
  cases y with
  | own ty xs => exact h
  | raw ty z xs => exact h
  | rtup ty z xs rest => exact h
  | _ => exact rn_vrel (bk := fun l => Ow l 0) (bk' := fun l => Ow' l 0) hk' hbk h hy
def rnS (κ κ' : Loc) (m : Store) : Store := m.map fun p => (swp κ κ' p.1, p.2.rn κ κ')
theorem lk_rnS {κ κ' : Loc} : ∀ {m : Store} {l : Loc} {v' : AV}, lk (rnS κ κ' m) l = some v' → ∃ l0 y, lk m l0 = some y ∧ swp κ κ' l0 = l ∧ v' = y.rn κ κ'
  | [], l, v', h => by cases h
  | (k, u) :: r, l, v', h => by
    have h : lk ((swp κ κ' k, u.rn κ κ') :: rnS κ κ' r) l = some v' := h
    rw [lk_cons] at h
    split at h
    · rename_i e
      obtain rfl := Option.some.inj h
      exact ⟨k, u, lk_self .., e, rfl⟩
    · rename_i e
      obtain ⟨l0, y, h1, h2, h3⟩ := lk_rnS h
      refine ⟨l0, y, ?_, h2, h3⟩
      rw [lk_ne _ _ (fun e' => e (by rw [e']; exact h2))]; exact h1
theorem RelX.ren {Γ : Ctx} {a : Act} {w : World} (h : RelX P Γ n m a w) {κ κ' : Loc} (hL : κ.isL = true) (hL' : κ'.isL = true) (hne : κ ≠ κ') (hno : lk m κ' = none) (hf : refsM κ' m = false) (hp : Γ.pin κ = none) (hp' : Γ.pin κ' = none) : RelX P Γ n (rnS κ κ' m) a w := by
  obtain ⟨M, Ow, hr⟩ := h
  have hk := Loc.isL_blk hL
  have hk' := Loc.isL_blk hL'
  let Ow' : Loc → Nat → Option Nat := fun l i => if l = κ' then Ow κ i else if l = κ then none else Ow l i
  have hs : ∀ l i, l ≠ κ' → Ow' (swp κ κ' l) i = Ow l i := by
    intro l i hl
    by_cases e : κ = l
    · subst e; rw [swp_self]; show (if κ' = κ' then Ow κ i else _) = _; rw [if_pos rfl]
    · rw [swp_ne e]; show (if l = κ' then Ow κ i else if l = κ then none else Ow l i) = _; rw [if_neg hl, if_neg (fun e' => e e'.symm)]
  have hbk : ∀ l b, l ≠ κ' → Ow l 0 = some b → Ow' (swp κ κ' l) 0 = some b := fun l b hl h => by rw [hs l 0 hl]; exact h
  have hrf : ∀ {l0 : Loc} {y : AV}, lk m l0 = some y → ∀ l, Refs l y → l ≠ κ' := fun h1 l hl e => by subst e; exact refsM_lk hf h1 hl
  have hl0 : ∀ {l0 : Loc} {y : AV}, lk m l0 = some y → l0 ≠ κ' := fun h1 e => by subst e; rw [hno] at h1; cases h1
  have back : ∀ l i b, Ow' l i = some b → ∃ l0, Ow l0 i = some b ∧ l0 ≠ κ' ∧ swp κ κ' l0 = l := by
    intro l i b hb
    have hb : (if l = κ' then Ow κ i else if l = κ then none else Ow l i) = some b := hb
    split at hb
    · rename_i e; exact ⟨κ, hb, hne, by rw [swp_self, e]⟩
    · rename_i e1
      split at hb
      · cases hb
      · rename_i e2; exact ⟨l, hb, e1, swp_ne (fun e => e2 e.symm)⟩
  refine ⟨M, Ow', {
    size := hr.size
    defers := hr.defers
    slot := ?_
    blk := ?_
    inj := ?_
    lt := ?_
    mine := ?_
    mlt := hr.mlt
    mold := hr.mold
    mnew := hr.mnew
    fr := hr.fr
    pin := ?_ }⟩
  · intro t v' hv'
    obtain ⟨l0, y, h1, h2, rfl⟩ := lk_rnS hv'
    have e : l0 = .s t := by
      by_cases e : κ = l0
      · subst e; rw [swp_self] at h2; rw [h2] at hL'; cases hL'
      · rw [swp_ne e] at h2; exact h2
    subst e
    have := rn_srel hk' hbk (hr.slot t y h1) (hrf h1)
    rw [← h2, hs _ 0 (hl0 h1)]; exact this
  · intro l v' hl hv'
    obtain ⟨l0, y, h1, h2, rfl⟩ := lk_rnS hv'
    have hl0b : l0.isBlk = true := by
      by_cases e : κ = l0
      · subst e; exact hk
      · rw [swp_ne e] at h2; rw [h2]; exact hl
    obtain ⟨ty, cells, b, cs, rfl, ho, hh, hsz, hn, h3, h4⟩ := hr.blk l0 y hl0b h1
    refine ⟨ty, rnL κ κ' cells, b, cs, rfl, by rw [← h2, hs _ 0 (hl0 h1)]; exact ho, hh, by rw [rnL_map, List.length_map]; exact hsz, hn, h3, ?_⟩
    intro i x v hx hv
    rw [rnL_map, List.getElem?_map] at hx
    obtain ⟨x0, hx0, rfl⟩ := Option.map_eq_some_iff.1 hx
    rw [← h2, hs _ (i + 1) (hl0 h1)]
    exact rn_srel hk' hbk (h4 i x0 v hx0 hv) (fun l hl => hrf h1 l (.blk ty cells x0 (List.mem_of_getElem? hx0) hl))
  · intro l i l' i' b hb hb'
    obtain ⟨l0, h1, _, h3⟩ := back l i b hb
    obtain ⟨l1, h4, _, h6⟩ := back l' i' b hb'
    obtain ⟨e1, e2⟩ := hr.inj _ _ _ _ _ h1 h4
    subst e1
    exact ⟨h3.symm.trans h6, e2⟩
  · intro l i b hb
    obtain ⟨l0, h1, _, _⟩ := back l i b hb
    exact hr.lt _ _ _ h1
  · intro l i b hb
    obtain ⟨l0, h1, _, h3⟩ := back l i b hb
    rcases hr.mine _ _ _ h1 with h | h | ⟨j, e, h⟩
    · exact .inl h
    · exact .inr (.inl h)
    · subst e
      refine .inr (.inr ⟨j, ?_, h⟩)
      rw [swp_ne (fun e => by rw [e] at hL; cases hL)] at h3; exact h3.symm
  · intro l b hl hpl
    have h1 : l ≠ κ' := fun e => by rw [e, hp'] at hpl; cases hpl
    have h2 : l ≠ κ := fun e => by rw [e, hp] at hpl; cases hpl
    show (if l = κ' then Ow κ 0 else if l = κ then none else Ow l 0) = some b
    rw [if_neg h1, if_neg h2]; exact hr.pin l b hl hpl
theorem pin_none {Γ : Ctx} (hΓ : G.ok Γ) {κ : Loc} (h : pinB [κ] G.pins = true) : Γ.pin κ = none := by
  cases hx : Γ.pin κ with
  | none => rfl
  | some b => exact absurd (hΓ.2 κ (by rw [hx]; simp)) (pinB_eq h κ (by simp))
theorem Tr.ren {c : Code} {Q : Exit → Store → Prop} (κ κ' : Loc) (hL : κ.isL = true) (hL' : κ'.isL = true) (hne : κ ≠ κ') (hno : lk m κ' = none) (hf : refsM κ' m = false) (hp : pinB [κ] G.pins = true) (hp' : pinB [κ'] G.pins = true) (k : Tr P G n c (rnS κ κ' m) Q) : Tr P G n c m Q :=
  fun Γ hΓ a w hr => k Γ hΓ a w (hr.ren hL hL' hne hno hf (pin_none hΓ hp) (pin_none hΓ hp'))
structure CPreX (P : Program) (G : World → Prop) (M : Nat → Nat → Prop) (Ow : Loc → Nat → Option Nat) (args : List AV) (H : Store) (cargs : Array Value) (w : World) : Prop where
  size : cargs.size = args.length
  arg : ∀ (i : Nat) (x : AV) (v : Value), args[i]? = some x → cargs[i]? = some v → VRel w M (fun κ => Ow κ 0) x v
  blk : ∀ κ v, lk H κ = some v → BRel P w M Ow κ v
  only : ∀ l i b, Ow l i = some b → l.isL = true ∧ ∃ cs ty, w.heap[b]? = some (.cells cs ty (0, 0))
  inj : ∀ l i l' i' b, Ow l i = some b → Ow l' i' = some b → l = l' ∧ i = i'
  mlt : ∀ b o, M b o → b < w.heap.size
  stab : ∀ w', Fr w (fun b => ∃ l i, Ow l i = some b) M w' → G w'
  base : ∃ w1, G w1 ∧ (∀ b, (∃ l i, Ow l i = some b) → w1.heap.size ≤ b) ∧ w1.heap.size ≤ w.heap.size
structure CPostX (P : Program) (M : Nat → Nat → Prop) (Ow : Loc → Nat → Option Nat) (H : Store) (R : AV → Store → Prop) (w : World) (cv : Value) (w' : World) : Prop where
  fr : Fr w (fun b => ∃ l i, Ow l i = some b) M w'
  res : ∃ (M' : Nat → Nat → Prop) (Ow' : Loc → Nat → Option Nat) (r : AV) (N : Store) (o : Option Nat), R r N ∧ (∀ b k, M b k → M' b k) ∧ (∀ b k, M' b k → M b k ∨ (∃ l i, Ow l i = some b) ∨ w.heap.size ≤ b) ∧ (∀ b k, M' b k → b < w'.heap.size) ∧
    (∀ l i l' i' b, Ow' l i = some b → Ow' l' i' = some b → l = l' ∧ i = i') ∧ (∀ l i b, Ow' l i = some b → b < w'.heap.size ∧ ((∃ l i, Ow l i = some b) ∨ w.heap.size ≤ b)) ∧
    (∀ b, o = some b → b < w'.heap.size ∧ ((∃ l i, Ow l i = some b) ∨ w.heap.size ≤ b) ∧ ∀ l i, lk N l ≠ none → Ow' l i ≠ some b) ∧
    (∀ κ, lk H κ ≠ none → lk N κ ≠ none ∧ Ow' κ 0 = Ow κ 0) ∧ (∀ κ v, lk N κ = some v → κ.isL = true ∧ BRel P w' M' Ow' κ v) ∧ SRel P w' M' Ow' r cv o
def FnX (P : Program) (G : World → Prop) (f : FuncId) (args : List AV) (H : Store) (R : AV → Store → Prop) : Prop :=
  Callable P f ∧ ∀ M Ow w cargs, G w → CPreX P G M Ow args H cargs w → Calls P f cargs w fun e w' => ∃ cv, e = .returned cv ∧ CPostX P M Ow H R w cv w'
def resX (tab : Tab) (m : Store) (rs : List ResultVar) : Option AV := match resO tab m rs with
  | some r => match r.isOwn with
    | true => none
    | false => some r
  | none => match rs with
    | [.cell a t] => match lk m (.s a), tlk tab t with
      | some (.ptr κ 0), some ⟨size, _, kind, _⟩ => match lk m κ with
        | some (.blk _ cells) => match kind.agg, Nat.beq cells.length size with
          | true, true => some (.agg (cells.map AV.deg))
          | _, _ => none
        | _ => none
      | _, _ => none
    | _ => none
theorem resX_own {m : Store} {rs : List ResultVar} {v : AV} (h : resX tab m rs = some v) : v.isOwn = false := by
  unfold resX at h
  split at h
  · split at h
    · cases h
    · rename_i hn; obtain rfl := Option.some.inj h; exact hn
  · split at h
    · split at h
      · split at h
        · split at h
          · obtain rfl := Option.some.inj h; rfl
          · cases h
        · cases h
      · cases h
    · cases h
theorem resX_ok (hT : TabOk P tab) {fn : Func} {v : AV} (h : resX tab m fn.results.toList = some v) {Γ : Ctx} {M : Nat → Nat → Prop} {Ow : Loc → Nat → Option Nat} {a : Act} {w : World} (hr : Rel P Γ M Ow n m a w) :
    ∃ cv, (results fn a.tmps).run P w = .ok cv w ∧ SRel P w M Ow v cv none := by
  have hown := resX_own h
  unfold resX at h
  split at h
  · rename_i r hres
    split at h
    · cases h
    · obtain rfl := Option.some.inj h
      obtain ⟨cv, e1, _, o, e2, _⟩ := resO_ok hT hres hr
      exact ⟨cv, e1, srel_of (vrel_of e2 hown) none⟩
  · split at h
    · rename_i ad t hres
      split at h
      · rename_i κ size by' kind zs ha ht
        split at h
        · rename_i ty cells hκ
          split at h
          · rename_i hagg hlen
            obtain rfl := Option.some.inj h
            have hlen := Nat.eq_of_beq_eq_true hlen
            have hq : VRel w M (fun κ => Ow κ 0) (.ptr κ 0) (a.tmps.getD ad undef) := hr.slot ad _ ha
            obtain ⟨b, hk, hb, hv⟩ : ∃ b, κ.isBlk = true ∧ Ow κ 0 = some b ∧ a.tmps.getD ad undef = .pointer (some ⟨b, 0, none⟩) := by
              generalize a.tmps.getD ad undef = q at hq
              cases hq with | ptr _ _ b hk hb => exact ⟨b, hk, hb, rfl⟩
            obtain ⟨ty0, cells0, b0, cs, e0, ho, hh, hs', hn, h1, hcs⟩ := hr.blk κ _ hk hκ
            obtain ⟨rfl, rfl⟩ : ty = ty0 ∧ cells = cells0 := by injection e0; exact ⟨‹_›, ‹_›⟩
            obtain rfl : b = b0 := by rw [hb] at ho; exact Option.some.inj ho
            have hld := run_loadVar_agg (P := P) (w := w) (b := b) (o := 0) (cs := cs.toList) hT ht hagg (by simp [hs', hlen]) (fun j u hj => by
              rw [Nat.zero_add]
              simp [World.cell?, hh]
              simpa using hj)
            refine ⟨.agg cs.toList.toArray, ?_, ?_⟩
            · have hm : fn.results.mapM (fun x => resV x a.tmps) = (do let l ← fn.results.toList.mapM (fun x => resV x a.tmps); pure l.toArray : Sem (Array Value)) := by
                rw [Array.mapM_eq_mapM_toList]; rfl
              rw [results_eq, hm, hres]
              have h0 : (resV (.cell ad t) a.tmps).run P w = .ok (.agg cs.toList.toArray) w := by
                have e : resV (.cell ad t) a.tmps = (Bind.bind (asAddr (a.tmps.getD ad undef)) fun p => loadVar t p) := rfl
                rw [e, hv]
                exact hld
              simp [List.mapM_cons, h0]
            · refine VRel.agg _ _ (by simp [hs']) (fun i v hv => h1 i v (by simpa using hv)) fun i x v hx hv => ?_
              rw [List.getElem?_map] at hx
              obtain ⟨y, hy, rfl⟩ := Option.map_eq_some_iff.1 hx
              exact deg_vrel (hcs i y v hy (by simpa using hv))
          · cases h
        · cases h
      · cases h
    · cases h
def retX (tab : Tab) (res : List ResultVar) (H : Store) (R : AV → Store → Prop) : Exit → Store → Prop
  | .ret, m => ∃ r N, resX tab m res = some r ∧ R r N ∧ (∀ κ v, lk N κ = some v → κ.isL = true ∧ lk m κ = some v) ∧ ∀ κ, lk H κ ≠ none → lk N κ ≠ none
  | .normal, m => ∃ r N, resX tab m res = some r ∧ R r N ∧ (∀ κ v, lk N κ = some v → κ.isL = true ∧ lk m κ = some v) ∧ ∀ κ, lk H κ ≠ none → lk N κ ≠ none
  | _, _ => False
theorem FnX.of {G : World → Prop} {f : FuncId} {fn : Func} {c : Code} {args : List AV} {H : Store} {R : AV → Store → Prop} (pins : List Loc) (hT : TabOk P tab) (hf : P.funcs[f]? = some fn) (hb : fn.body = some c) (hname : (fn.name == "runtime.NumGoroutine") = false)
    (hargs : args.length ≤ fn.ntmps) (hn : fn.ntmps = n) (hH : ∀ κ v, lk H κ = some v → κ.isBlk = true ∧ κ ∈ pins) (h : Tr P ⟨G, pins⟩ n c (entryS args 0 H) (retX tab fn.results.toList H R)) : FnX P G f args H R := by
  subst hn
  refine ⟨⟨fn, hf, hname, by rw [hb]; rfl⟩, fun M Ow w cargs hgw hp => ?_⟩
  refine (callsIn_wide (n := 0)).1 (callsIn_of_wp_marks hf hb trivial ?_ rfl)
  classical
  let Γ : Ctx := ⟨w, fun b => ∃ l i, Ow l i = some b, M, fun _ => False, G, hp.stab, [], none, (fun l h => by cases h), fun κ => if lk H κ = none then none else Ow κ 0, hp.base⟩
  have hsz : cargs.size ≤ fn.ntmps := by rw [hp.size]; exact hargs
  have hlt : ∀ l i b, Ow l i = some b → b < w.heap.size := fun l i b hb => by
    obtain ⟨_, cs, ty, h⟩ := hp.only l i b hb
    exact (Array.getElem?_eq_some_iff.1 h).1
  have hr : RelX P Γ fn.ntmps (entryS args 0 H) { tmps := cargs ++ Array.replicate (fn.ntmps - cargs.size) undef, defers := [] } w := by
    refine ⟨M, Ow, {
      size := by simp; omega
      defers := ⟨[], rfl, List.nodup_nil, fun D h => by cases h⟩
      slot := ?_
      blk := ?_
      inj := hp.inj
      lt := hlt
      mine := fun l i b hb => .inl ⟨l, i, hb⟩
      mlt := hp.mlt
      mold := fun b o h => h
      mnew := fun b o h => .inl h
      pin := fun κ b hk h => by
        have h : (if lk H κ = none then none else Ow κ 0) = some b := h
        split at h
        · cases h
        · exact h
      fr := ⟨rfl, rfl, rfl, Nat.le_refl _, fun _ _ _ => rfl, fun b cs ty z h => ⟨cs, h, rfl⟩, fun _ _ _ => rfl⟩ }⟩
    · intro t v hv
      obtain ⟨_, h2⟩ := lk_entry (fun κ v h => (hH κ v h).1) hv
      simp only [Nat.sub_zero] at h2
      have hlt : t < cargs.size := by
        rw [hp.size]
        rcases Nat.lt_or_ge t args.length with h | h
        · exact h
        · rw [List.getElem?_eq_none h] at h2; cases h2
      have : (cargs ++ Array.replicate (fn.ntmps - cargs.size) undef).getD t undef = cargs[t] := by
        rw [Array.getD_eq_getD_getElem?, Array.getElem?_append_left hlt]; simp [hlt]
      show SRel P w M Ow v ((cargs ++ Array.replicate (fn.ntmps - cargs.size) undef).getD t undef) _
      rw [this]
      exact srel_of (hp.arg t v _ h2 (by simp [hlt])) _
    · intro κ v hk hv
      rw [lk_entry_blk hk] at hv
      exact hp.blk κ v hv
  refine Go.wpIn_mono (F := FW none) (h Γ ⟨rfl, fun κ h => by
    have h : (if lk H κ = none then none else Ow κ 0) ≠ none := h
    split at h
    · exact absurd rfl h
    · rename_i h2
      obtain ⟨v, hv⟩ := Option.ne_none_iff_exists'.1 h2
      exact (hH κ v hv).2⟩ _ w hr) fun e a' w' hq => ?_
  obtain ⟨m', hq, M', Ow', hr'⟩ := hq
  have fin : (∃ r N, resX tab m' fn.results.toList = some r ∧ R r N ∧ (∀ κ v, lk N κ = some v → κ.isL = true ∧ lk m' κ = some v) ∧ ∀ κ, lk H κ ≠ none → lk N κ ≠ none) → LeavesInM (FW none) 0 P fn a'.tmps (fun e w' => ∃ cv, e = .returned cv ∧ CPostX P M Ow H R w cv w') a'.defers .returning w' := by
    rintro ⟨r, N, h1, h2, hN1, hN2⟩
    obtain ⟨Ds, hd1, hd2, hd3⟩ := hr'.defers
    have key : ∀ (Ds : List Nat) (a' : Act) (w' : World), Rel P Γ M' Ow' fn.ntmps m' a' w' → a'.defers = Ds.map markD → Ds.Nodup → (∀ D, D ∈ Ds → w.heap.size ≤ D ∧ w'.heap[D]? = some (.deferred (some []))) →
        LeavesInM (FW none) 0 P fn a'.tmps (fun e w' => ∃ cv, e = .returned cv ∧ CPostX P M Ow H R w cv w') (Ds.map markD) .returning w' := by
      intro Ds
      induction Ds with
      | nil =>
        intro a' w' hr' hd _ _
        obtain ⟨cv, e1, e2⟩ := resX_ok hT h1 hr'
        have mine : ∀ l i b, Ow' l i = some b → (∃ l i, Ow l i = some b) ∨ w.heap.size ≤ b := fun l i b hb => by
          rcases hr'.mine l i b hb with h | h | ⟨j, _, h⟩
          · exact .inl h
          · exact .inr h
          · exact h.elim
        refine ⟨cv, e1, cv, rfl, ⟨hr'.fr, M', Ow', r, N, none, h2, hr'.mold, ?_, hr'.mlt, hr'.inj, fun l i b hb => ⟨hr'.lt l i b hb, mine l i b hb⟩, (fun b e => nomatch e), ?_, ?_, e2⟩⟩
        · intro b k hb
          rcases hr'.mnew b k hb with h | h | h
          · exact .inl h
          · exact .inr (.inl h)
          · exact .inr (.inr h)
        · intro κ hκ
          refine ⟨hN2 κ hκ, ?_⟩
          obtain ⟨v, hv⟩ := Option.ne_none_iff_exists'.1 hκ
          obtain ⟨ty, cells, b, cs, rfl, ho, _⟩ := hp.blk κ v hv
          rw [ho]
          exact hr'.pin κ b (hH κ _ hv).1 (show (if lk H κ = none then none else Ow κ 0) = some b by rw [if_neg hκ]; exact ho)
        · intro κ v hv
          obtain ⟨q1, q2⟩ := hN1 κ v hv
          exact ⟨q1, hr'.blk κ v (Loc.isL_blk q1) q2⟩
      | cons D Ds ih =>
        intro a' w' hr' hd hn hD
        refine ⟨by simp, .inl ⟨D, _, rfl, run_takeDeferred (hD D (List.mem_cons_self ..)).2, ?_⟩⟩
        have hr2 := hr'.drop hn hD
        rw [List.append_nil] at hr2
        exact ih { a' with defers := Ds.map markD } _ hr2 rfl (List.nodup_cons.1 hn).2 (fun d hd => ⟨(hD d (List.mem_cons_of_mem _ hd)).1, (World.putObj_heap_other (fun (e : d = D) => (List.nodup_cons.1 hn).1 (by rw [← e]; exact hd))).trans (hD d (List.mem_cons_of_mem _ hd)).2⟩)
    rw [List.append_nil] at hd1
    rw [hd1]
    exact key Ds a' w' hr' hd1 hd2 hd3
  cases e with
  | ret => exact fin hq
  | normal => exact fin hq
  | _ => exact hq.elim
end
end Go.Lg

set_option linter.unusedVariables false
set_option linter.unusedSimpArgs false
namespace Go.Lg
open Go Go.RowKit
section
variable {P : Program} {G : Env} {n : Nat} {tab : Tab} {m : Store}
def owX (H : Store) (Ow : Loc → Nat → Option Nat) (l : Loc) (i : Nat) : Option Nat := match lk H l, i with
  | some _, 0 => Ow l 0
  | _, _ => none
theorem owX_some {H : Store} {Ow : Loc → Nat → Option Nat} {l : Loc} {i b : Nat} (h : owX H Ow l i = some b) : (∃ v, lk H l = some v) ∧ i = 0 ∧ Ow l 0 = some b := by
  unfold owX at h
  split at h
  · rename_i v e; exact ⟨⟨v, e⟩, rfl, h⟩
  · cases h
theorem owX_of {H : Store} {Ow : Loc → Nat → Option Nat} {l : Loc} {v : AV} (h : lk H l = some v) : owX H Ow l 0 = Ow l 0 := by unfold owX; simp only [h]
def evCallX (n : Nat) (ops : List Oper) (o : Oper) (m : Store) : Option (FuncId × List AV × Option Nat) := match o.op with
  | .call ⟨.value fo, args, _⟩ => match gOk m ops o.guard with
    | true => match opV m fo with
      | some (.fn f caps) => match opsV m args.toList with
        | some vs => match appL (vs.map AV.deg) caps with
          | some all => match o.dst with
            | some d => match Nat.blt d n with
              | true => some (f, all, some d)
              | false => none
            | none => some (f, all, none)
          | none => none
        | none => none
      | _ => none
    | false => none
  | _ => none
end
end Go.Lg

set_option linter.unusedVariables false
set_option linter.unusedSimpArgs false
namespace Go.Lg
open Go Go.RowKit
section
variable {P : Program} {G : Env} {n : Nat} {tab : Tab} {m : Store}
end
end Go.Lg

set_option linter.unusedVariables false
set_option linter.unusedSimpArgs false
namespace Go.Lg
open Go Go.RowKit
section
variable {P : Program} {G : Env} {n : Nat} {tab : Tab} {m : Store}
def owZ (H : Store) (Ow Ow' : Loc → Nat → Option Nat) (l : Loc) (i : Nat) : Option Nat := match lk H l with
  | some _ => Ow' l i
  | none => Ow l i
theorem owZ_t {H : Store} {Ow Ow' : Loc → Nat → Option Nat} {l : Loc} {i : Nat} {v : AV} (h : lk H l = some v) : owZ H Ow Ow' l i = Ow' l i := by unfold owZ; rw [h]
theorem owZ_f {H : Store} {Ow Ow' : Loc → Nat → Option Nat} {l : Loc} {i : Nat} (h : lk H l = none) : owZ H Ow Ow' l i = Ow l i := by unfold owZ; rw [h]
theorem Rel.afterN {Γ : Ctx} {M M' : Nat → Nat → Prop} {Ow Ow' : Loc → Nat → Option Nat} {a : Act} {w w' : World} {H N : Store} (h : Rel P Γ M Ow n m a w) (hH : ∀ κ v, lk H κ = some v → κ.isL = true ∧ lk m κ = some v)
    (hfr : Fr w (fun b => ∃ l i, owX H Ow l i = some b) M w') (hM : ∀ b k, M b k → M' b k) (hM2 : ∀ b k, M' b k → M b k ∨ (∃ l i, owX H Ow l i = some b) ∨ w.heap.size ≤ b) (hM3 : ∀ b k, M' b k → b < w'.heap.size)
    (hinj : ∀ l i l' i' b, Ow' l i = some b → Ow' l' i' = some b → l = l' ∧ i = i') (hlt : ∀ l i b, Ow' l i = some b → b < w'.heap.size ∧ ((∃ l i, owX H Ow l i = some b) ∨ w.heap.size ≤ b))
    (hkeep : ∀ κ, lk H κ ≠ none → lk N κ ≠ none ∧ Ow' κ 0 = owX H Ow κ 0) (hblk : ∀ κ v, lk N κ = some v → κ.isL = true ∧ BRel P w' M' Ow' κ v)
    (hNH : ∀ κ v, lk N κ = some v → lk H κ ≠ none ∨ (refsM κ m = false ∧ Γ.pin κ = none)) (hcl : ∀ κ ty cells, lk N κ = some (.blk ty cells) → ∀ x, x ∈ cells → ∀ κ', Refs κ' x → lk N κ' ≠ none) :
    Rel P Γ M' (owZ N Ow Ow') n (N ++ m) a w' := by
  have some_of : ∀ {l : Loc}, lk H l ≠ none → ∃ v, lk H l = some v := fun h => Option.ne_none_iff_exists'.1 h
  have hm : ∀ b o, M b o → M' b o ∧ w'.cell? ⟨b, o, none⟩ = w.cell? ⟨b, o, none⟩ := fun b o hb => ⟨hM b o hb, hfr.keep b o hb⟩
  -- a block that isn't handed in
  have out : ∀ l i b, Ow l i = some b → lk H l = none → ¬ ∃ l i, owX H Ow l i = some b := by
    rintro l i b hb hn ⟨l2, i2, h2⟩
    obtain ⟨⟨v, e1⟩, e2, e3⟩ := owX_some h2
    obtain ⟨rfl, _⟩ := h.inj _ _ _ _ _ hb e3
    rw [hn] at e1; cases e1
  have inn : ∀ b, (∃ l i, owX H Ow l i = some b) → Γ.own0 b ∨ Γ.w0.heap.size ≤ b := by
    rintro b ⟨l, i, h2⟩
    obtain ⟨⟨v, e1⟩, e2, e3⟩ := owX_some h2
    rcases h.mine l 0 b e3 with h' | h' | ⟨j, rfl, _⟩
    · exact .inl h'
    · exact .inr h'
    · have := (hH _ _ e1).1; cases this
  have HN : ∀ {l : Loc}, lk N l = none → lk H l = none := by
    intro l e
    cases e0 : lk H l with
    | none => rfl
    | some v0 => exact absurd e (hkeep l (by rw [e0]; simp)).1
  have hpt : ∀ κ b, ¬ (refsM κ m = false ∧ Γ.pin κ = none) → Ow κ 0 = some b → owZ N Ow Ow' κ 0 = some b := by
    intro κ b hno hb
    cases e : lk N κ with
    | none => rw [owZ_f e]; exact hb
    | some v =>
      rw [owZ_t e]
      rcases hNH κ v e with h' | h'
      · obtain ⟨v0, e0⟩ := some_of h'
        rw [(hkeep κ h').2, owX_of e0]; exact hb
      · exact absurd h' hno
  have hrf : ∀ {l : Loc} {x : AV} {κ : Loc}, lk m l = some x → Refs κ x → ¬ (refsM κ m = false ∧ Γ.pin κ = none) := fun hl hr' h' => refsM_lk h'.1 hl hr'
  have hown : ∀ l i b, lk N l = none → Ow l i = some b → owZ N Ow Ow' l i = some b ∧ (∀ (cs : Array Value) (ty : TypeId), w.heap[b]? = some (Obj.cells cs ty (0, 0)) → w'.heap[b]? = some (Obj.cells cs ty (0, 0))) ∧ (∀ k, M' b k → M b k) := by
    intro l i b hn hb
    have hlt' := h.lt l i b hb
    have ho := out l i b hb (HN hn)
    refine ⟨by rw [owZ_f hn]; exact hb, fun cs ty hh => (hfr.block b hlt' ho).trans hh, fun k hk => ?_⟩
    rcases hM2 b k hk with h' | h' | h'
    · exact h'
    · exact absurd h' ho
    · omega
  have lkN : ∀ l, lk N l = none → lk (N ++ m) l = lk m l := fun l e => by rw [lk_app, e]
  have lkS : ∀ l v, lk N l = some v → lk (N ++ m) l = some v := fun l v e => by rw [lk_app, e]
  refine {
    size := h.size
    defers := h.defers.imp fun Ds hd => ⟨hd.1, hd.2.1, fun D hmem => ⟨(hd.2.2 D hmem).1, ?_⟩⟩
    slot := ?_
    blk := ?_
    inj := ?_
    lt := ?_
    mine := ?_
    mlt := hM3
    mold := fun b o hb => hM _ _ (h.mold b o hb)
    mnew := ?_
    pin := fun κ b hk hp => hpt κ b (fun h' => by rw [h'.2] at hp; cases hp) (h.pin κ b hk hp)
    fr := ?_ }
  · have hD := (hd.2.2 D hmem).2
    refine (hfr.block D (Array.getElem?_eq_some_iff.1 hD).1 ?_).trans hD
    rintro ⟨l, i, h2⟩
    obtain ⟨⟨v, e1⟩, e2, e3⟩ := owX_some h2
    obtain ⟨q1, q2⟩ := hH _ _ e1
    obtain ⟨ty, cells, b, cs, rfl, ho, hh, _⟩ := h.blk l v (Loc.isL_blk q1) q2
    obtain rfl : D = b := Option.some.inj (e3.symm.trans ho)
    rw [hh] at hD; cases hD
  · intro t v hv
    have hn : lk N (.s t) = none := by
      cases e : lk N (.s t) with
      | none => rfl
      | some v' => have := (hblk _ _ e).1; cases this
    rw [lkN _ hn] at hv
    exact (h.slot t v hv).mono hm (fun κ b _ hr' hb => hpt κ b (hrf hv hr') hb) (fun b hb => hown _ _ b hn hb)
  · intro κ v hk hv
    cases e : lk N κ with
    | some v' =>
      rw [lkS _ _ e] at hv
      obtain rfl := Option.some.inj hv
      obtain ⟨ty, cells, b, cs, rfl, ho, hh, hs, hn, h1, hc⟩ := (hblk κ _ e).2
      refine ⟨ty, cells, b, cs, rfl, by rw [owZ_t e]; exact ho, hh, hs, hn, h1, fun i y u hy hu => ?_⟩
      rw [owZ_t e]
      refine (hc i y u hy hu).mono (fun b k h => ⟨h, rfl⟩) (fun κ' b' _ hr hb => ?_) (fun b hb => ⟨hb, fun cs ty h => h, fun k h => h⟩)
      obtain ⟨v1, e1⟩ := Option.ne_none_iff_exists'.1 (hcl κ ty cells e y (List.mem_of_getElem? hy) κ' hr)
      rw [owZ_t e1]; exact hb
    | none =>
      rw [lkN _ e] at hv
      obtain ⟨ty, cells, b, cs, rfl, ho, hh, hs, hn, h1, hc⟩ := h.blk κ v hk hv
      obtain ⟨q1, q2, q3⟩ := hown κ 0 b e ho
      exact ⟨ty, cells, b, cs, rfl, q1, q2 _ _ hh, hs, fun o hm' => hn o (q3 o hm'), h1, fun i y u hy hu => (hc i y u hy hu).mono hm (fun κ' b _ hr' hb => hpt κ' b (hrf hv (.blk ty cells y (List.mem_of_getElem? hy) hr')) hb) (fun b hb => hown _ _ b e hb)⟩
  · intro l i l' i' b hb hb'
    have mix : ∀ {l i l' i'}, Ow' l i = some b → lk N l' = none → Ow l' i' = some b → False := by
      intro l i l' i' h1 h2 h3
      rcases (hlt l i b h1).2 with h4 | h4
      · exact out _ _ _ h3 (HN h2) h4
      · have := h.lt _ _ _ h3; omega
    cases e : lk N l with
    | some v =>
      rw [owZ_t e] at hb
      cases e' : lk N l' with
      | some v' => rw [owZ_t e'] at hb'; exact hinj _ _ _ _ _ hb hb'
      | none => rw [owZ_f e'] at hb'; exact (mix hb e' hb').elim
    | none =>
      rw [owZ_f e] at hb
      cases e' : lk N l' with
      | some v' => rw [owZ_t e'] at hb'; exact (mix hb' e hb).elim
      | none => rw [owZ_f e'] at hb'; exact h.inj _ _ _ _ _ hb hb'
  · intro l i b hb
    cases e : lk N l with
    | some v => rw [owZ_t e] at hb; exact (hlt l i b hb).1
    | none => rw [owZ_f e] at hb; exact Nat.lt_of_lt_of_le (h.lt l i b hb) hfr.size
  · intro l i b hb
    cases e : lk N l with
    | some v =>
      rw [owZ_t e] at hb
      rcases (hlt l i b hb).2 with h' | h'
      · rcases inn b h' with h' | h'
        · exact .inl h'
        · exact .inr (.inl h')
      · exact .inr (.inl (Nat.le_trans h.fr.size h'))
    | none => rw [owZ_f e] at hb; exact h.mine l i b hb
  · intro b o hb
    rcases hM2 b o hb with h' | h' | h'
    · exact h.mnew b o h'
    · rcases inn b h' with h' | h'
      · exact .inr (.inl h')
      · exact .inr (.inr h')
    · exact .inr (.inr (Nat.le_trans h.fr.size h'))
  · refine ⟨hfr.os.trans h.fr.os, hfr.tape.trans h.fr.tape, hfr.output.trans h.fr.output, Nat.le_trans h.fr.size hfr.size, fun b hb ho => ?_, ?_, fun b o hb => (hm b o (h.mold b o hb)).2.trans (h.fr.keep b o hb)⟩
    · refine (hfr.block b (Nat.lt_of_lt_of_le hb h.fr.size) fun h' => ?_).trans (h.fr.block b hb ho)
      rcases inn b h' with h' | h'
      · exact ho h'
      · omega
    · intro b cs ty z hz
      obtain ⟨cs', h1, h2⟩ := h.fr.shape b cs ty z hz
      obtain ⟨cs'', h3, h4⟩ := hfr.shape b cs' ty z h1
      exact ⟨cs'', h3, h4.trans h2⟩
theorem Sq.callN {ops l : List Oper} {o : Oper} {f : FuncId} {args : List AV} {d : Option Nat} {H : Store} {R : AV → Store → Prop} {K : Store → Prop} (h : evCallX n ops o m = some (f, args, d))
    (hH : ∀ κ v, lk H κ = some v → κ.isL = true ∧ lk m κ = some v) (hcells : ∀ κ ty cells, lk H κ = some (.blk ty cells) → ∀ x, x ∈ cells → x.isOwn = false ∧ ∀ κ', Refs κ' x → lk H κ' ≠ none)
    (hargs : ∀ x, x ∈ args → ∀ κ, Refs κ x → lk H κ ≠ none) (hf : FnX P G.st f args H R)
    (hR : ∀ r N, R r N → (r.isOwn = false ∧ ∀ κ, Refs κ r → lk N κ ≠ none) ∧ (∀ κ v, lk N κ = some v → lk H κ ≠ none ∨ (freshB [κ] m && pinB [κ] G.pins) = true) ∧ ∀ κ ty cells, lk N κ = some (.blk ty cells) → ∀ x, x ∈ cells → ∀ κ', Refs κ' x → lk N κ' ≠ none)
    (k : ∀ r N, R r N → Sq P G n ops l (putO d r (N ++ m)) K) : Sq P G n ops (o :: l) m K := by
  obtain ⟨dst, op, type, pos, after, guard⟩ := o
  unfold evCallX at h
  simp only at h
  split at h
  · rename_i fo cargs ats
    split at h
    · rename_i hg
      split at h
      · rename_i f' caps hfo
        split at h
        · rename_i vs hvs
          rw [appL_eq] at h
          simp only at h
          obtain ⟨vs', hmap⟩ : ∃ vs', vs' = vs.map AV.deg := ⟨_, rfl⟩
          rw [← hmap] at h
          have hd : d = dst ∧ f' = f ∧ vs' ++ caps = args ∧ ∀ d', dst = some d' → d' < n := by
            cases dst with
            | none => simp only [Option.some.injEq, Prod.mk.injEq] at h; obtain ⟨h1, h2, h4⟩ := h; exact ⟨h4.symm, h1, h2, fun d' e => by cases e⟩
            | some d0 =>
              simp only at h
              split at h
              · rename_i hlt
                simp only [Option.some.injEq, Prod.mk.injEq] at h; obtain ⟨h1, h2, h4⟩ := h
                exact ⟨h4.symm, h1, h2, fun d' e => by obtain rfl := Option.some.inj e; exact Nat.lt_of_succ_le (Nat.le_of_ble_eq_true hlt)⟩
              · cases h
          obtain ⟨rfl, rfl, rfl, hdn⟩ := hd
          clear h
          obtain ⟨⟨fn, hfn, hname, hbody⟩, hcalls⟩ := hf
          intro Γ hΓ a w hr Q hQ
          obtain ⟨M, Ow, hr⟩ := hr
          have hw : Region.wanted (⟨d, .call ⟨.value fo, cargs, ats⟩, type, pos, after, guard⟩ : Oper) (yielded ops.toArray a.tmps) = true := by
            unfold gOk at hg
            split at hg
            · simp [Region.wanted]
            · rename_i j want
              split at hg
              · rename_i g hgd
                split at hg
                · rename_i v hv
                  split at hg
                  · rename_i b hs
                    simp only [Region.wanted]; rw [yielded_of hgd hr hv hs]; exact hg
                  · cases hg
                · cases hg
              · cases hg
          obtain ⟨qf, hqf⟩ := opV_ok hfo hr
          have hqf : VRel w M (fun κ => Ow κ 0) (.fn f' caps) (a.eval fo) := hqf
          obtain ⟨cs, hfv, hcsz, hcs⟩ : ∃ cs : Array Value, a.eval fo = .func (.func f') #[] cs ∧ cs.size = caps.length ∧ ∀ (i : Nat) (x : AV) (v : Value), caps[i]? = some x → cs[i]? = some v → VRel w M (fun κ => Ow κ 0) x v := by
            generalize a.eval fo = q at hqf
            cases hqf with | fn _ _ cs h1 h2 => exact ⟨cs, rfl, h1, h2⟩
          obtain ⟨hvl, hvr⟩ := opsV_ok (P := P) (n := n) hvs
          have hvl' : vs'.length = vs.length := by rw [hmap]; simp
          have hrun : (execOp a.eval (⟨d, .call ⟨.value fo, cargs, ats⟩, type, pos, after, guard⟩ : Oper)).run P w = .ok (.enter f' (cargs.map a.eval ++ cs)) w := by
            have hname' : ¬ fn.name = "runtime.NumGoroutine" := by simpa using hname
            have hbody' : ¬ fn.body = none := fun e => by rw [e] at hbody; cases hbody
            simp [execOp, resolve, Deferred.ofValue, hfv, invoke, callFunc, hfn, hname', hbody']
          have hsz : (cargs.map a.eval ++ cs).size = (vs' ++ caps).length := by simp [hvl', hvl, hcsz]
          have hall : ∀ (i : Nat) (x : AV) (v : Value), (vs' ++ caps)[i]? = some x → (cargs.map a.eval ++ cs)[i]? = some v → VRel w M (fun κ => Ow κ 0) x v := by
            intro i x v hx hv
            rcases Nat.lt_or_ge i vs'.length with hi | hi
            · rw [List.getElem?_append_left hi, hmap, List.getElem?_map] at hx
              obtain ⟨x', hx', rfl⟩ := Option.map_eq_some_iff.1 hx
              rw [Array.getElem?_append_left (by simp; rw [← Array.length_toList, ← hvl, ← hvl']; exact hi), Array.getElem?_map] at hv
              obtain ⟨y, hy, rfl⟩ := Option.map_eq_some_iff.1 hv
              obtain ⟨o, ho⟩ := hvr hr i x' y hx' (by simpa using hy)
              exact deg_vrel ho
            · rw [List.getElem?_append_right hi] at hx
              rw [Array.getElem?_append_right (by simp; rw [← Array.length_toList, ← hvl, ← hvl']; exact hi)] at hv
              exact hcs _ x v hx (by simpa [hvl, hvl'] using hv)
          have toX : ∀ {x : AV} {v : Value}, (∀ κ, Refs κ x → lk H κ ≠ none) → VRel w M (fun κ => Ow κ 0) x v → VRel w M (fun κ => owX H Ow κ 0) x v := by
            intro x v hx hv
            refine hv.mono (fun b k h => ⟨h, rfl⟩) (fun κ b _ hr' hb => ?_)
            obtain ⟨v', e⟩ := Option.ne_none_iff_exists'.1 (hx κ hr')
            rw [owX_of e]; exact hb
          have hpre : CPreX P G.st M (owX H Ow) (vs' ++ caps) H (cargs.map a.eval ++ cs) w := {
            size := hsz
            arg := fun i x v hx hv => toX (hargs x (List.mem_of_getElem? hx)) (hall i x v hx hv)
            blk := by
              intro κ v hv
              obtain ⟨hL, hm⟩ := hH κ v hv
              obtain ⟨ty, cells, b, cs0, rfl, ho, hh, hs, hn, h1, hc⟩ := hr.blk κ _ (Loc.isL_blk hL) hm
              exact ⟨ty, cells, b, cs0, rfl, by rw [owX_of hv]; exact ho, hh, hs, hn, h1, fun i y u hy hu => by
                obtain ⟨q1, q2⟩ := hcells κ ty cells hv y (List.mem_of_getElem? hy)
                exact srel_of (toX q2 (vrel_of (hc i y u hy hu) q1)) _⟩
            only := by
              intro l i b hb
              obtain ⟨⟨v, e1⟩, e2, e3⟩ := owX_some hb
              obtain ⟨hL, hm⟩ := hH l v e1
              obtain ⟨ty, cells, b', cs0, rfl, ho, hh, _⟩ := hr.blk l _ (Loc.isL_blk hL) hm
              obtain rfl : b = b' := Option.some.inj (e3.symm.trans ho)
              exact ⟨hL, cs0, ty, hh⟩
            inj := by
              intro l i l' i' b hb hb'
              obtain ⟨_, e2, e3⟩ := owX_some hb
              obtain ⟨_, e2', e3'⟩ := owX_some hb'
              subst e2; subst e2'
              exact hr.inj _ _ _ _ _ e3 e3'
            mlt := hr.mlt
            stab := by
              intro w' hfr
              rw [← hΓ.1]
              refine Γ.stab w' ?_
              have inn : ∀ b, (∃ l i, owX H Ow l i = some b) → Γ.own0 b ∨ Γ.w0.heap.size ≤ b := by
                rintro b ⟨l, i, h2⟩
                obtain ⟨⟨v, e1⟩, e2, e3⟩ := owX_some h2
                rcases hr.mine l 0 b e3 with h' | h' | ⟨j, rfl, _⟩
                · exact .inl h'
                · exact .inr h'
                · have := (hH _ _ e1).1; cases this
              refine ⟨hfr.os.trans hr.fr.os, hfr.tape.trans hr.fr.tape, hfr.output.trans hr.fr.output, Nat.le_trans hr.fr.size hfr.size, fun b hb ho => ?_, ?_, fun b o hb => (hfr.keep b o (hr.mold b o hb)).trans (hr.fr.keep b o hb)⟩
              · refine (hfr.block b (Nat.lt_of_lt_of_le hb hr.fr.size) fun h' => ?_).trans (hr.fr.block b hb ho)
                rcases inn b h' with h' | h'
                · exact ho h'
                · omega
              · intro b cs ty z hz
                obtain ⟨cs', h1, h2⟩ := hr.fr.shape b cs ty z hz
                obtain ⟨cs'', h3, h4⟩ := hfr.shape b cs' ty z h1
                exact ⟨cs'', h3, h4.trans h2⟩
            base := by
              obtain ⟨w1, g1, g2, g3⟩ := Γ.base
              refine ⟨w1, hΓ.1 ▸ g1, ?_, Nat.le_trans g3 hr.fr.size⟩
              rintro b ⟨l, i, h2⟩
              obtain ⟨⟨v, e1⟩, e2, e3⟩ := owX_some h2
              rcases hr.mine l 0 b e3 with h' | h' | ⟨j, rfl, _⟩
              · exact g2 b h'
              · omega
              · have := (hH _ _ e1).1; cases this }
          have hc := hcalls M _ w _ (hΓ.1 ▸ Γ.stab w hr.fr) hpre
          unfold wpListIn
          rw [if_pos hw]
          refine ⟨fun _ _ => trivial, ?_⟩
          rw [show (FW Γ.rd).round = Γ.rd from rfl, semAt_of Γ.rd hrun (fun d e => by cases e), Oper.uponIn_enter]
          refine ⟨fun h => Bool.noConfusion (show false = true from h), FW.calls (hc.mono ?_)⟩
          rintro e w' ⟨cv, rfl, hfr, M', Ow', r, N, o, hRN, hM, hM2, hM3, hinj, hlt, ho, hkeep, hblk, hs⟩
          obtain ⟨⟨hro, hrr⟩, hNH, hcl⟩ := hR r N hRN
          have hNH' : ∀ κ v, lk N κ = some v → lk H κ ≠ none ∨ (refsM κ m = false ∧ Γ.pin κ = none) := fun κ v e => by
            rcases hNH κ v e with h' | h'
            · exact .inl h'
            · rw [Bool.and_eq_true] at h'
              refine .inr ⟨freshB_eq h'.1 κ (by simp), ?_⟩
              cases hx : Γ.pin κ with
              | none => rfl
              | some b => exact absurd (hΓ.2 κ (by rw [hx]; simp)) (pinB_eq h'.2 κ (by simp))
          have hr' := hr.afterN hH hfr hM hM2 hM3 hinj hlt hkeep hblk hNH' hcl
          refine k r N hRN Γ hΓ _ w' ?_ Q hQ
          cases d with
          | none => exact ⟨M', _, hr'⟩
          | some d' =>
            have hd' := hdn d' rfl
            have hv : VRel w' M' (fun κ => owZ N Ow Ow' κ 0) r cv := (vrel_of hs hro).mono (fun b k h => ⟨h, rfl⟩) (fun κ b _ hr' hb => by obtain ⟨v', e⟩ := Option.ne_none_iff_exists'.1 (hrr κ hr'); rw [owZ_t e]; exact hb)
            exact ⟨M', _, hr'.put hd' hv⟩
        · cases h
      · cases h
    · cases h
  · cases h
end
end Go.Lg

set_option linter.unusedVariables false
set_option linter.unusedSimpArgs false
namespace Go.Lg
open Go Go.RowKit
section
variable {P : Program} {G : Env} {n : Nat} {tab : Tab} {m : Store}
def dropLb (κ : Loc) (Ow : Loc → Nat → Option Nat) (l : Loc) (i : Nat) : Option Nat := if l = κ then none else Ow l i
theorem Rel.dropO {Γ : Ctx} {M : Nat → Nat → Prop} {Ow : Loc → Nat → Option Nat} {a : Act} {w : World} (h : Rel P Γ M Ow n m a w) {κ : Loc} (hL : κ.isL = true) (hl : lk m κ = none) (hf : refsM κ m = false) (hpn : Γ.pin κ = none) : Rel P Γ M (dropLb κ Ow) n m a w := by
  have sub : ∀ {l : Loc} {i b : Nat}, dropLb κ Ow l i = some b → l ≠ κ ∧ Ow l i = some b := by
    intro l i b e
    unfold dropLb at e
    split at e
    · cases e
    · rename_i h; exact ⟨h, e⟩
  have ne : ∀ {l : Loc} (i : Nat), l ≠ κ → dropLb κ Ow l i = Ow l i := fun i h => by unfold dropLb; rw [if_neg h]
  have key : ∀ {x : AV} {v : Value} {o : Option Nat}, ¬ Refs κ x → SRel P w M Ow x v o → SRel P w M (dropLb κ Ow) x v o := by
    intro x v o hx hv
    refine hv.mono (fun b o h => ⟨h, rfl⟩) (fun κ' b _ hr' e => ?_) (fun b hb => ⟨hb, fun cs ty h => h, fun k h => h⟩)
    rw [ne 0 (fun e' => hx (e' ▸ hr'))]; exact e
  refine { h with slot := ?_, blk := ?_, inj := ?_, lt := ?_, mine := ?_, pin := ?_ }
  · intro t v hv
    rw [ne 0 (fun e => by rw [← e] at hL; cases hL)]
    exact key (refsM_lk hf hv) (h.slot t v hv)
  · intro κ' v hk' hv
    have hne : κ' ≠ κ := fun e => by rw [e, hl] at hv; cases hv
    obtain ⟨ty, cells, b, cs, rfl, ho, hh, hs, hn, h1, hc⟩ := h.blk κ' v hk' hv
    refine ⟨ty, cells, b, cs, rfl, by rw [ne 0 hne]; exact ho, hh, hs, hn, h1, fun i y u hy hu => ?_⟩
    rw [ne (i + 1) hne]
    exact key (fun hr' => refsM_lk hf hv (.blk ty cells y (List.mem_of_getElem? hy) hr')) (hc i y u hy hu)
  · intro l i l' i' b hb hb'
    exact h.inj _ _ _ _ _ (sub hb).2 (sub hb').2
  · intro l i b hb; exact h.lt _ _ _ (sub hb).2
  · intro l i b hb; exact h.mine _ _ _ (sub hb).2
  · intro κ' b hk hp
    rw [ne 0 (fun e => by rw [e, hpn] at hp; cases hp)]
    exact h.pin κ' b hk hp
theorem raw_cells {w : World} {M : Nat → Nat → Prop} {Ow : Loc → Nat → Option Nat} {κ : Loc} {es : Nat} {cells : List AV} {cs : Array Value} {xs : List T} (hs' : cs.size = cells.length)
    (hcs : ∀ (i : Nat) (y : AV) (v : Value), cells[i]? = some y → cs[i]? = some v → SRel P w M Ow y v (Ow κ (i + 1)))
    (hc : ∀ (i j : Nat) (x y : T), xs[i]? = some x → x.cells[j]? = some y → ∃ v, cells[i * es + j]? = some v ∧ v.deg = .tr y) :
    ∀ (i j : Nat) (x y : T), xs[i]? = some x → x.cells[j]? = some y → ∃ u, cs[0 + i * es + j]? = some u ∧ Rep w M y u := by
  intro i j x y hx hy
  obtain ⟨v, h1, h2⟩ := hc i j x y hx hy
  have hlt := (List.getElem?_eq_some_iff.1 h1).1
  have hl : i * es + j < cs.size := by omega
  rw [Nat.zero_add]
  refine ⟨cs[i * es + j], by simp [hl], ?_⟩
  have h3 := deg_vrel (hcs (i * es + j) v cs[i * es + j] h1 (by simp [hl]))
  rw [h2] at h3
  cases h3 with | tr _ _ h => exact h
theorem RelX.rawC (hT : TabOk P tab) {Γ : Ctx} {a : Act} {w : World} (h : RelX P Γ n m a w) {κ0 κ : Loc} {ty : TypeId} {cells0 : List AV} {off len cap es by' : Nat} {kd : TK} {zs : List AV} {e : TypeId} {cells : List AV} {xs : List T} (hL0 : κ0.isL = true) (hb0 : lk m κ0 = some (.blk ty cells0)) (hc0 : cells0[off]? = some (.sl κ len cap)) (hb : lk m κ = some (.blk e cells)) (hL : κ.isL = true)
    (hn0 : κ0.eqb κ = false) (hpn : Γ.pin κ = none) (hf : refsM κ ((κ0, .blk ty (cells0.set off .unk)) :: delL κ0 (delL κ m)) = false) (he : tlk tab e = some ⟨es, by', kd, zs⟩) (hlen : xs.length = len) (hsz : cells.length = cap * es) (hx : ∀ x, x ∈ xs → x.cells.length = es) (hc : ∀ (i j : Nat) (x y : T), xs[i]? = some x → x.cells[j]? = some y → ∃ v, cells[i * es + j]? = some v ∧ v.deg = .tr y) :
    RelX P Γ n ((κ0, .blk ty (cells0.set off (.raw e true xs))) :: delL κ0 (delL κ m)) a w := by
  obtain ⟨M, Ow, hr⟩ := h
  obtain ⟨ie, hie, hisz, _⟩ := hT.info he
  have hisz : ie.size = es := hisz
  subst hisz
  have hk0 := Loc.isL_blk hL0
  have hkb := Loc.isL_blk hL
  have hne0 : κ0 ≠ κ := fun e => by rw [e, Loc.eqb_self] at hn0; cases hn0
  obtain ⟨ty0, cells', b0, cs0, e0, ho0, hh0, hs0, hn00, h10, hcs0⟩ := hr.blk κ0 _ hk0 hb0
  obtain ⟨rfl, rfl⟩ : ty = ty0 ∧ cells0 = cells' := by injection e0; exact ⟨‹_›, ‹_›⟩
  have hoff : off < cells0.length := by
    rcases Nat.lt_or_ge off cells0.length with h | h
    · exact h
    · rw [List.getElem?_eq_none h] at hc0; cases hc0
  have hoff' : off < cs0.size := by omega
  have hv : VRel w M (fun κ => Ow κ 0) (.sl κ len cap) cs0[off] := hcs0 off _ cs0[off] hc0 (by simp [hoff'])
  obtain ⟨b, ho, hcap, hval⟩ : ∃ b, Ow κ 0 = some b ∧ len ≤ cap ∧ cs0[off] = .slice (some ⟨b, 0, none⟩) len cap := by
    generalize cs0[off] = q at hv
    cases hv with | sl _ _ _ b hk hb hc => exact ⟨b, hb, hc, rfl⟩
  obtain ⟨ty1, cells1, b1, cs, e1, ho', hh, hs', hn, h1, hcs⟩ := hr.blk κ _ hkb hb
  obtain ⟨rfl, rfl⟩ : e = ty1 ∧ cells = cells1 := by injection e1 with e1 e2; exact ⟨e1, e2⟩
  obtain rfl : b = b1 := by rw [ho] at ho'; exact Option.some.inj ho'
  have hbl := hr.lt _ _ _ ho
  have hbm := hr.mineL (l := κ) (fun j e => by rw [e] at hL; cases hL) ho
  -- the cell forgotten, the block too
  have hr2 := hr.forgetcell hL0 hb0 hoff
  have hd := hr2.sub (m' := (κ0, .blk ty (cells0.set off .unk)) :: delL κ0 (delL κ m)) (fun l v hl => by
    rw [lk_cons] at hl ⊢
    split
    · rename_i e; rw [if_pos e] at hl; exact hl
    · rename_i e
      rw [if_neg e] at hl
      rw [lk_del, if_neg (fun h => e h.symm), lk_del] at hl
      split at hl
      · cases hl
      · exact hl)
  have hno : lk ((κ0, AV.blk ty (cells0.set off .unk)) :: delL κ0 (delL κ m)) κ = none := by rw [lk_ne _ _ hne0, lk_del, if_neg (fun e => hne0 e.symm), lk_del, if_pos rfl]
  have h3 := hd.dropO hL hno hf hpn
  have hval0 : isVal κ0 (off + 1) = true := by cases κ0 <;> first | rfl | cases hk0
  have h4 := h3.setOw (l := κ0) (i := off + 1) hval0 (some b) (fun b' hb' => by
    obtain rfl := Option.some.inj hb'
    refine ⟨fun l' i' e => ?_, hbl, hbm⟩
    exfalso
    unfold dropLb at e
    split at e
    · cases e
    · rename_i hlk
      by_cases e2 : l' = κ0 ∧ i' = off + 1
      · obtain ⟨rfl, rfl⟩ := e2; rw [setO_self] at e; cases e
      · rw [setO_ne _ e2] at e; exact hlk (hr.inj _ _ _ _ _ e ho).1) (fun t v e => by rw [e] at hk0; cases hk0) (by
    intro ty' cells' j b' cs' y v _ hlk hj hy hb' hh' hv'
    rw [lk_self] at hlk
    obtain ⟨rfl, rfl⟩ : ty = ty' ∧ cells0.set off .unk = cells' := by injection hlk with hlk; injection hlk; exact ⟨‹_›, ‹_›⟩
    obtain rfl : off = j := by omega
    rw [List.getElem?_set_self hoff] at hy
    obtain rfl := Option.some.inj hy
    exact VRel.unk _)
  have h5 := h4.labelcell (κ := κ0) hk0 (ty := ty) (cells := cells0.set off .unk) (off := off) (y' := .raw e true xs) (by rw [lk_self]) (by
    intro b' cs' u hb' hh' hu
    rw [setO_ne _ (fun e => by have := e.2; omega)] at hb'
    have hb' : Ow κ0 0 = some b' := by
      unfold dropLb at hb'
      rw [if_neg hne0, setO_ne _ (fun e => by have := e.2; omega)] at hb'
      exact hb'
    rw [ho0] at hb'
    obtain rfl := Option.some.inj hb'
    rw [hh0] at hh'
    obtain rfl : cs0 = cs' := by injection hh' with hh'; injection hh'
    have : u = cs0[off] := by simpa [hoff'] using hu.symm
    rw [this, hval, setO_self]
    refine ⟨ie, hie, hx, .inr ⟨b, 0, cap, cs, rfl, by rw [hlen], fun _ => rfl, hh, by omega, fun _ => by omega, by omega, hn, h1, raw_cells (κ := κ) hs' hcs hc⟩⟩)
  refine ⟨M, _, h5.sub ?_⟩
  intro l v hl
  rw [List.set_set]
  rw [lk_cons] at hl ⊢
  split
  · rename_i e; rw [if_pos e] at hl; exact hl
  · rename_i e; rw [if_neg e] at hl; rw [lk_ne _ _ e]; exact hl
end
end Go.Lg

set_option linter.unusedVariables false
set_option linter.unusedSimpArgs false
namespace Go.Lg
open Go Go.RowKit
section
variable {P : Program} {G : Env} {n : Nat} {tab : Tab} {m : Store}
theorem Sq.thaw (hT : TabOk P tab) {ops l : List Oper} {K : Store → Prop} (s : Nat) (κ : Loc) {e es by' : Nat} {kd : TK} {zs : List AV} {xs : List T} (hs : lk m (.s s) = some (.raw e true xs)) (hne : xs ≠ []) (he : tlk tab e = some ⟨es, by', kd, zs⟩) (hpos : 0 < es)
    (hL : κ.isL = true) (hf : (freshB [κ] m && pinB [κ] G.pins) = true) (k : ∀ cap, xs.length ≤ cap → Sq P G n ops l ((.s s, .sl κ xs.length cap) :: (κ, .blk e ((xs.flatMap T.cells).map .tr ++ List.replicate ((cap - xs.length) * es) .unk)) :: m) K) : Sq P G n ops l m K := fun Γ hΓ a w hr => by
  rw [Bool.and_eq_true] at hf
  have hpn : Γ.pin κ = none := by
    cases hx : Γ.pin κ with
    | none => rfl
    | some b => exact absurd (hΓ.2 κ (by rw [hx]; simp)) (pinB_eq hf.2 κ (by simp))
  obtain ⟨cap, hc, hr'⟩ := hr.thaw hT hs hne he hpos hL hpn (freshB_eq hf.1 κ (by simp))
  exact k cap hc Γ hΓ a w hr'
theorem Tr.rawC (hT : TabOk P tab) {c : Code} {Q : Exit → Store → Prop} (κ0 κ : Loc) (off : Nat) {ty : TypeId} {cells0 : List AV} {len cap es by' : Nat} {kd : TK} {zs : List AV} {e : TypeId} {cells : List AV} (xs : List T) (hL0 : κ0.isL = true) (hb0 : lk m κ0 = some (.blk ty cells0)) (hc0 : cells0[off]? = some (.sl κ len cap)) (hb : lk m κ = some (.blk e cells)) (hL : κ.isL = true)
    (hn0 : κ0.eqb κ = false) (hpn : pinB [κ] G.pins = true) (hf : refsM κ ((κ0, .blk ty (cells0.set off .unk)) :: delL κ0 (delL κ m)) = false) (he : tlk tab e = some ⟨es, by', kd, zs⟩) (hlen : xs.length = len) (hsz : cells.length = cap * es) (hx : ∀ x, x ∈ xs → x.cells.length = es) (hc : ∀ (i j : Nat) (x y : T), xs[i]? = some x → x.cells[j]? = some y → ∃ v, cells[i * es + j]? = some v ∧ v.deg = .tr y)
    (k : Tr P G n c ((κ0, .blk ty (cells0.set off (.raw e true xs))) :: delL κ0 (delL κ m)) Q) : Tr P G n c m Q := fun Γ hΓ a w hr => by
  have hpn : Γ.pin κ = none := by
    cases hx : Γ.pin κ with
    | none => rfl
    | some b => exact absurd (hΓ.2 κ (by rw [hx]; simp)) (pinB_eq hpn κ (by simp))
  exact k Γ hΓ a w (hr.rawC hT hL0 hb0 hc0 hb hL hn0 hpn hf he hlen hsz hx hc)
end
end Go.Lg

set_option linter.unusedVariables false
set_option linter.unusedSimpArgs false
namespace Go.Lg.Tryz
open Go Go.Proofs Go.RowKit Go.Lib Go.Lg.Sem
theorem cloneRS {α : Type} (enc : α → T) (hes : ∀ a, (enc a).cells.length = 2) {xs : List α} (h1 : xs ≠ []) (hx : xs.length ≤ 1000000) : Fn Tryz.prog Gw 47 [.tr (.ls (xs.map enc))] [] (· = .raw 72 true (xs.map enc)) := by
  refine Fn.of tab_ok Tryz.func47 rfl (by decide) (by simp [Tryz.f47]) rfl (fun κ v h => by cases h) Gw.below ?_
  repeat' (first|refine zS ?_|refine zR ?_|refine zE tab_ok rfl rfl ?_|refine zN ?_|(refine zG rfl rfl (fun _ => ?_) fun _ => ?_)<;>refine zE tab_ok rfl rfl ?_|(refine zC rfl (fun _ => ?_) fun _ => ?_)<;>try (rename_i h; cases h; done)|refine zB ?_|refine zK ?_|refine zZ ⟨_, rfl, ?_⟩)
  refine Sq.eqNil tab_ok rfl (fun b hb => ?_)
  cases b
  · refine zN ?_
    refine zC rfl (fun h => by cases h) (fun _ => ?_)
    refine zK ?_
    refine zS ?_
    refine zR ?_
    refine Sq.lit0R tab_ok rfl ?_
    refine zE tab_ok rfl rfl ?_
    refine Sq.appendR tab_ok rfl (fun y hy => by obtain ⟨a, _, rfl⟩ := List.mem_map.1 hy; exact hes a) (by rw [List.length_map]; simp; omega) ?_
    repeat' (first|refine zS ?_|refine zR ?_|refine zE tab_ok rfl rfl ?_|refine zN ?_|(refine zG rfl rfl (fun _ => ?_) fun _ => ?_)<;>refine zE tab_ok rfl rfl ?_|(refine zC rfl (fun _ => ?_) fun _ => ?_)<;>try (rename_i h; cases h; done)|refine zB ?_|refine zK ?_|refine zZ ⟨_, rfl, ?_⟩)
    rfl
  · exfalso
    have := congrArg List.length (hb rfl)
    rw [List.length_map] at this
    exact h1 (List.eq_nil_of_length_eq_zero this)
theorem cloneRR {α : Type} (enc : α → T) (hes : ∀ a, (enc a).cells.length = 6) {xs : List α} (h1 : xs ≠ []) (hx : xs.length ≤ 1000000) : Fn Tryz.prog Gw 48 [.tr (.ls (xs.map enc))] [] (· = .raw 78 true (xs.map enc)) := by
  refine Fn.of tab_ok Tryz.func48 rfl (by decide) (by simp [Tryz.f48]) rfl (fun κ v h => by cases h) Gw.below ?_
  repeat' (first|refine zS ?_|refine zR ?_|refine zE tab_ok rfl rfl ?_|refine zN ?_|(refine zG rfl rfl (fun _ => ?_) fun _ => ?_)<;>refine zE tab_ok rfl rfl ?_|(refine zC rfl (fun _ => ?_) fun _ => ?_)<;>try (rename_i h; cases h; done)|refine zB ?_|refine zK ?_|refine zZ ⟨_, rfl, ?_⟩)
  refine Sq.eqNil tab_ok rfl (fun b hb => ?_)
  cases b
  · refine zN ?_
    refine zC rfl (fun h => by cases h) (fun _ => ?_)
    refine zK ?_
    refine zS ?_
    refine zR ?_
    refine Sq.lit0R tab_ok rfl ?_
    refine zE tab_ok rfl rfl ?_
    refine Sq.appendR tab_ok rfl (fun y hy => by obtain ⟨a, _, rfl⟩ := List.mem_map.1 hy; exact hes a) (by rw [List.length_map]; simp; omega) ?_
    repeat' (first|refine zS ?_|refine zR ?_|refine zE tab_ok rfl rfl ?_|refine zN ?_|(refine zG rfl rfl (fun _ => ?_) fun _ => ?_)<;>refine zE tab_ok rfl rfl ?_|(refine zC rfl (fun _ => ?_) fun _ => ?_)<;>try (rename_i h; cases h; done)|refine zB ?_|refine zK ?_|refine zZ ⟨_, rfl, ?_⟩)
    rfl
  · exfalso
    have := congrArg List.length (hb rfl)
    rw [List.length_map] at this
    exact h1 (List.eq_nil_of_length_eq_zero this)
theorem cloneRN {α : Type} (enc : α → T) (hes : ∀ a, (enc a).cells.length = 2) {xs : List α} (h1 : xs ≠ []) (hx : xs.length ≤ 1000000) : Fn Tryz.prog Gw 49 [.tr (.ls (xs.map enc))] [] (· = .raw 83 true (xs.map enc)) := by
  refine Fn.of tab_ok Tryz.func49 rfl (by decide) (by simp [Tryz.f49]) rfl (fun κ v h => by cases h) Gw.below ?_
  repeat' (first|refine zS ?_|refine zR ?_|refine zE tab_ok rfl rfl ?_|refine zN ?_|(refine zG rfl rfl (fun _ => ?_) fun _ => ?_)<;>refine zE tab_ok rfl rfl ?_|(refine zC rfl (fun _ => ?_) fun _ => ?_)<;>try (rename_i h; cases h; done)|refine zB ?_|refine zK ?_|refine zZ ⟨_, rfl, ?_⟩)
  refine Sq.eqNil tab_ok rfl (fun b hb => ?_)
  cases b
  · refine zN ?_
    refine zC rfl (fun h => by cases h) (fun _ => ?_)
    refine zK ?_
    refine zS ?_
    refine zR ?_
    refine Sq.lit0R tab_ok rfl ?_
    refine zE tab_ok rfl rfl ?_
    refine Sq.appendR tab_ok rfl (fun y hy => by obtain ⟨a, _, rfl⟩ := List.mem_map.1 hy; exact hes a) (by rw [List.length_map]; simp; omega) ?_
    repeat' (first|refine zS ?_|refine zR ?_|refine zE tab_ok rfl rfl ?_|refine zN ?_|(refine zG rfl rfl (fun _ => ?_) fun _ => ?_)<;>refine zE tab_ok rfl rfl ?_|(refine zC rfl (fun _ => ?_) fun _ => ?_)<;>try (rename_i h; cases h; done)|refine zB ?_|refine zK ?_|refine zZ ⟨_, rfl, ?_⟩)
    rfl
  · exfalso
    have := congrArg List.length (hb rfl)
    rw [List.length_map] at this
    exact h1 (List.eq_nil_of_length_eq_zero this)
theorem cloneRA {α : Type} (enc : α → T) (hes : ∀ a, (enc a).cells.length = 1) {xs : List α} (h1 : xs ≠ []) (hx : xs.length ≤ 1000000) : Fn Tryz.prog Gw 50 [.tr (.ls (xs.map enc))] [] (· = .raw 84 true (xs.map enc)) := by
  refine Fn.of tab_ok Tryz.func50 rfl (by decide) (by simp [Tryz.f50]) rfl (fun κ v h => by cases h) Gw.below ?_
  repeat' (first|refine zS ?_|refine zR ?_|refine zE tab_ok rfl rfl ?_|refine zN ?_|(refine zG rfl rfl (fun _ => ?_) fun _ => ?_)<;>refine zE tab_ok rfl rfl ?_|(refine zC rfl (fun _ => ?_) fun _ => ?_)<;>try (rename_i h; cases h; done)|refine zB ?_|refine zK ?_|refine zZ ⟨_, rfl, ?_⟩)
  refine Sq.eqNil tab_ok rfl (fun b hb => ?_)
  cases b
  · refine zN ?_
    refine zC rfl (fun h => by cases h) (fun _ => ?_)
    refine zK ?_
    refine zS ?_
    refine zR ?_
    refine Sq.lit0R tab_ok rfl ?_
    refine zE tab_ok rfl rfl ?_
    refine Sq.appendR tab_ok rfl (fun y hy => by obtain ⟨a, _, rfl⟩ := List.mem_map.1 hy; exact hes a) (by rw [List.length_map]; simp; omega) ?_
    repeat' (first|refine zS ?_|refine zR ?_|refine zE tab_ok rfl rfl ?_|refine zN ?_|(refine zG rfl rfl (fun _ => ?_) fun _ => ?_)<;>refine zE tab_ok rfl rfl ?_|(refine zC rfl (fun _ => ?_) fun _ => ?_)<;>try (rename_i h; cases h; done)|refine zB ?_|refine zK ?_|refine zZ ⟨_, rfl, ?_⟩)
    rfl
  · exfalso
    have := congrArg List.length (hb rfl)
    rw [List.length_map] at this
    exact h1 (List.eq_nil_of_length_eq_zero this)
theorem cloneNd {α : Type} (enc : α → T) (hes : ∀ a, (enc a).cells.length = 2) (xs : List α) (hn : xs.length ≤ 1073741824) : Fn Tryz.prog Gw 49 [.tr (.ls (xs.map enc))] [] (· = .own 83 (xs.map enc)) := by
  refine Fn.of tab_ok Tryz.func49 rfl (by decide) (by simp [Tryz.f49]) rfl (fun κ v h => by cases h) Gw.below ?_
  repeat' (first|refine zS ?_|refine zR ?_|refine zE tab_ok rfl rfl ?_|refine zN ?_|(refine zG rfl rfl (fun _ => ?_) fun _ => ?_)<;>refine zE tab_ok rfl rfl ?_|(refine zC rfl (fun _ => ?_) fun _ => ?_)<;>try (rename_i h; cases h; done)|refine zB ?_|refine zK ?_|refine zZ ⟨_, rfl, ?_⟩)
  refine Sq.eqNil tab_ok rfl (fun b hb => ?_)
  cases b
  · repeat' (first|refine zS ?_|refine zR ?_|refine zE tab_ok rfl rfl ?_|refine zN ?_|(refine zG rfl rfl (fun _ => ?_) fun _ => ?_)<;>refine zE tab_ok rfl rfl ?_|(refine zC rfl (fun _ => ?_) fun _ => ?_)<;>try (rename_i h; cases h; done)|refine zB ?_|refine zK ?_|refine zZ ⟨_, rfl, ?_⟩)
    refine Sq.append tab_ok rfl (fun y hy => by obtain ⟨a, _, rfl⟩ := List.mem_map.1 hy; exact hes a) (by simpa using hn) ?_
    repeat' (first|refine zS ?_|refine zR ?_|refine zE tab_ok rfl rfl ?_|refine zN ?_|(refine zG rfl rfl (fun _ => ?_) fun _ => ?_)<;>refine zE tab_ok rfl rfl ?_|(refine zC rfl (fun _ => ?_) fun _ => ?_)<;>try (rename_i h; cases h; done)|refine zB ?_|refine zK ?_|refine zZ ⟨_, rfl, ?_⟩)
    rfl
  · rw [hb rfl]
    repeat' (first|refine zS ?_|refine zR ?_|refine zE tab_ok rfl rfl ?_|refine zN ?_|(refine zG rfl rfl (fun _ => ?_) fun _ => ?_)<;>refine zE tab_ok rfl rfl ?_|(refine zC rfl (fun _ => ?_) fun _ => ?_)<;>try (rename_i h; cases h; done)|refine zB ?_|refine zK ?_|refine zZ ⟨_, rfl, ?_⟩)
    rfl
theorem cloneAn {α : Type} (enc : α → T) (hes : ∀ a, (enc a).cells.length = 1) (xs : List α) (hn : xs.length ≤ 1073741824) : Fn Tryz.prog Gw 50 [.tr (.ls (xs.map enc))] [] (· = .own 84 (xs.map enc)) := by
  refine Fn.of tab_ok Tryz.func50 rfl (by decide) (by simp [Tryz.f50]) rfl (fun κ v h => by cases h) Gw.below ?_
  repeat' (first|refine zS ?_|refine zR ?_|refine zE tab_ok rfl rfl ?_|refine zN ?_|(refine zG rfl rfl (fun _ => ?_) fun _ => ?_)<;>refine zE tab_ok rfl rfl ?_|(refine zC rfl (fun _ => ?_) fun _ => ?_)<;>try (rename_i h; cases h; done)|refine zB ?_|refine zK ?_|refine zZ ⟨_, rfl, ?_⟩)
  refine Sq.eqNil tab_ok rfl (fun b hb => ?_)
  cases b
  · repeat' (first|refine zS ?_|refine zR ?_|refine zE tab_ok rfl rfl ?_|refine zN ?_|(refine zG rfl rfl (fun _ => ?_) fun _ => ?_)<;>refine zE tab_ok rfl rfl ?_|(refine zC rfl (fun _ => ?_) fun _ => ?_)<;>try (rename_i h; cases h; done)|refine zB ?_|refine zK ?_|refine zZ ⟨_, rfl, ?_⟩)
    refine Sq.append tab_ok rfl (fun y hy => by obtain ⟨a, _, rfl⟩ := List.mem_map.1 hy; exact hes a) (by simpa using hn) ?_
    repeat' (first|refine zS ?_|refine zR ?_|refine zE tab_ok rfl rfl ?_|refine zN ?_|(refine zG rfl rfl (fun _ => ?_) fun _ => ?_)<;>refine zE tab_ok rfl rfl ?_|(refine zC rfl (fun _ => ?_) fun _ => ?_)<;>try (rename_i h; cases h; done)|refine zB ?_|refine zK ?_|refine zZ ⟨_, rfl, ?_⟩)
    rfl
  · rw [hb rfl]
    repeat' (first|refine zS ?_|refine zR ?_|refine zE tab_ok rfl rfl ?_|refine zN ?_|(refine zG rfl rfl (fun _ => ?_) fun _ => ?_)<;>refine zE tab_ok rfl rfl ?_|(refine zC rfl (fun _ => ?_) fun _ => ?_)<;>try (rename_i h; cases h; done)|refine zB ?_|refine zK ?_|refine zZ ⟨_, rfl, ?_⟩)
    rfl
theorem cloneCp {α : Type} (enc : α → T) (hes : ∀ a, (enc a).cells.length = 5) (xs : List α) (hn : xs.length ≤ 1073741824) : Fn Tryz.prog Gw 51 [.tr (.ls (xs.map enc))] [] (· = .own 86 (xs.map enc)) := by
  refine Fn.of tab_ok Tryz.func51 rfl (by decide) (by simp [Tryz.f51]) rfl (fun κ v h => by cases h) Gw.below ?_
  repeat' (first|refine zS ?_|refine zR ?_|refine zE tab_ok rfl rfl ?_|refine zN ?_|(refine zG rfl rfl (fun _ => ?_) fun _ => ?_)<;>refine zE tab_ok rfl rfl ?_|(refine zC rfl (fun _ => ?_) fun _ => ?_)<;>try (rename_i h; cases h; done)|refine zB ?_|refine zK ?_|refine zZ ⟨_, rfl, ?_⟩)
  refine Sq.eqNil tab_ok rfl (fun b hb => ?_)
  cases b
  · repeat' (first|refine zS ?_|refine zR ?_|refine zE tab_ok rfl rfl ?_|refine zN ?_|(refine zG rfl rfl (fun _ => ?_) fun _ => ?_)<;>refine zE tab_ok rfl rfl ?_|(refine zC rfl (fun _ => ?_) fun _ => ?_)<;>try (rename_i h; cases h; done)|refine zB ?_|refine zK ?_|refine zZ ⟨_, rfl, ?_⟩)
    refine Sq.append tab_ok rfl (fun y hy => by obtain ⟨a, _, rfl⟩ := List.mem_map.1 hy; exact hes a) (by simpa using hn) ?_
    repeat' (first|refine zS ?_|refine zR ?_|refine zE tab_ok rfl rfl ?_|refine zN ?_|(refine zG rfl rfl (fun _ => ?_) fun _ => ?_)<;>refine zE tab_ok rfl rfl ?_|(refine zC rfl (fun _ => ?_) fun _ => ?_)<;>try (rename_i h; cases h; done)|refine zB ?_|refine zK ?_|refine zZ ⟨_, rfl, ?_⟩)
    rfl
  · rw [hb rfl]
    repeat' (first|refine zS ?_|refine zR ?_|refine zE tab_ok rfl rfl ?_|refine zN ?_|(refine zG rfl rfl (fun _ => ?_) fun _ => ?_)<;>refine zE tab_ok rfl rfl ?_|(refine zC rfl (fun _ => ?_) fun _ => ?_)<;>try (rename_i h; cases h; done)|refine zB ?_|refine zK ?_|refine zZ ⟨_, rfl, ?_⟩)
    rfl
def fl (xs : List T) : List AV := (xs.flatMap T.cells).map AV.tr
theorem fl_len {es : Nat} (hpos : 0 < es) {xs : List T} (hx : ∀ x, x ∈ xs → x.cells.length = es) : (fl xs).length = xs.length * es := by
  unfold fl; rw [List.length_map, (flat_at hpos hx).1]
theorem fl_at {es : Nat} (hpos : 0 < es) {xs : List T} (hx : ∀ x, x ∈ xs → x.cells.length = es) {k j : Nat} {x y : T} (hk : xs[k]? = some x) (hj : x.cells[j]? = some y) : (fl xs)[k * es + j]? = some (.tr y) := by
  have hjl : j < es := by rw [← hx x (List.mem_of_getElem? hk)]; exact (List.getElem?_eq_some_iff.1 hj).1
  unfold fl
  rw [List.getElem?_map, (flat_at hpos hx).2, Nat.mul_comm k es, Nat.mul_add_div hpos, Nat.div_eq_of_lt hjl, Nat.add_zero, hk, Nat.mul_add_mod, Nat.mod_eq_of_lt hjl]
  show ((x.cells)[j]?).map AV.tr = _
  rw [hj]; rfl
theorem refsL_none {κ : Loc} : ∀ {l : List AV}, (∀ y, y ∈ l → y.refs κ = false) → refsL κ l = false
  | [], _ => rfl
  | y :: l, h => by simp only [refsL, Bool.or_eq_false_iff]; exact ⟨h y (List.mem_cons_self ..), refsL_none fun z hz => h z (List.mem_cons_of_mem _ hz)⟩
theorem fl_refs (κ : Loc) (xs : List T) (k : Nat) : refsL κ (fl xs ++ List.replicate k AV.unk) = false := refsL_flat xs k
theorem set_back {l : List AV} {i : Nat} {v y : AV} (h : l[i]? = some v) : (l.set i y).set i v = l := by
  rw [List.set_set]
  apply List.ext_getElem?
  intro j
  rw [List.getElem?_set]
  split
  · rename_i e; subst e; rw [if_pos (List.getElem?_eq_some_iff.1 h).1, h]
  · rfl
def svA (c : Ctl) (g : Nat → Svc → AV) : List AV := (List.range (2 * c.length)).map fun k => match c[k / 2]? with
  | some s => if k % 2 = 0 then .tr (.sc (.string s.name)) else g (k / 2) s
  | none => .unk
theorem svA_len (c : Ctl) (g : Nat → Svc → AV) : (svA c g).length = 2 * c.length := by unfold svA; simp
theorem svA_get {c : Ctl} {g : Nat → Svc → AV} {k : Nat} {s : Svc} (h : c[k / 2]? = some s) : (svA c g)[k]? = some (if k % 2 = 0 then .tr (.sc (.string s.name)) else g (k / 2) s) := by
  have := (List.getElem?_eq_some_iff.1 h).1
  unfold svA
  rw [List.getElem?_map, List.getElem?_range (by omega)]
  simp only [Option.map_some, h]
theorem svA_at1 {c : Ctl} {g : Nat → Svc → AV} {j : Nat} {s : Svc} (h : c[j]? = some s) : (svA c g)[j * 2 + 1]? = some (g j s) := by
  rw [svA_get (k := j * 2 + 1) (s := s) (by rw [show (j * 2 + 1) / 2 = j by omega]; exact h), if_neg (by omega), show (j * 2 + 1) / 2 = j by omega]
theorem svA_congr {c : Ctl} {g g' : Nat → Svc → AV} (h : ∀ k s, c[k]? = some s → g k s = g' k s) : svA c g = svA c g' := by
  unfold svA
  refine List.map_congr_left fun k _ => ?_
  cases e : c[k / 2]? with
  | none => rfl
  | some s => simp only; rw [h _ s e]
theorem svA_set {c : Ctl} {g : Nat → Svc → AV} {j : Nat} (hj : j < c.length) (v : AV) : (svA c g).set (j * 2 + 1) v = svA c (fun k s => if k = j then v else g k s) := by
  apply List.ext_getElem?
  intro k
  rw [List.getElem?_set, svA_len]
  by_cases hk : k < 2 * c.length
  · obtain ⟨s, hs⟩ : ∃ s, c[k / 2]? = some s := ⟨_, List.getElem?_eq_getElem (by omega)⟩
    rw [svA_get hs, svA_get hs]
    by_cases e : j * 2 + 1 = k
    · subst e
      rw [if_pos rfl, if_pos (by omega), if_neg (by omega), if_pos (by omega)]
    · rw [if_neg e]
      by_cases e2 : k % 2 = 0
      · rw [if_pos e2, if_pos e2]
      · rw [if_neg e2, if_neg e2, if_neg (by omega)]
  · rw [if_neg (by omega), List.getElem?_eq_none (by rw [svA_len]; omega), List.getElem?_eq_none (by rw [svA_len]; omega)]
theorem svA_refs {κ : Loc} {c : Ctl} {g : Nat → Svc → AV} (h : ∀ k s, c[k]? = some s → (g k s).refs κ = false) (m : Nat) : refsL κ (svA c g ++ List.replicate m AV.unk) = false := by
  refine refsL_none fun y hy => ?_
  rcases List.mem_append.1 hy with hy | hy
  · unfold svA at hy
    obtain ⟨k, hk, rfl⟩ := List.mem_map.1 hy
    cases e : c[k / 2]? with
    | none => rfl
    | some s =>
      simp only
      split
      · rfl
      · exact h _ s e
  · rw [List.eq_of_mem_replicate hy]; rfl
theorem svA_fl (c : Ctl) : fl (c.map svcT) = svA c (fun _ s => .tr (.ls (s.rels.map rlsT))) := by
  have hx : ∀ x, x ∈ c.map svcT → x.cells.length = 2 := by intro x hx; obtain ⟨a, _, rfl⟩ := List.mem_map.1 hx; rfl
  apply List.ext_getElem?
  intro k
  by_cases hk : k < 2 * c.length
  · obtain ⟨s, hs⟩ : ∃ s, c[k / 2]? = some s := ⟨_, List.getElem?_eq_getElem (by omega)⟩
    rw [svA_get hs]
    have hs' : (c.map svcT)[k / 2]? = some (svcT s) := by rw [List.getElem?_map, hs]; rfl
    by_cases e2 : k % 2 = 0
    · rw [if_pos e2]
      have := fl_at (es := 2) (by omega) hx hs' (j := 0) (y := .sc (.string s.name)) rfl
      rw [show k / 2 * 2 + 0 = k by omega] at this
      exact this
    · rw [if_neg e2]
      have := fl_at (es := 2) (by omega) hx hs' (j := 1) (y := .ls (s.rels.map rlsT)) rfl
      rw [show k / 2 * 2 + 1 = k by omega] at this
      exact this
  · rw [List.getElem?_eq_none (by rw [fl_len (es := 2) (by omega) hx, List.length_map]; omega), List.getElem?_eq_none (by rw [svA_len]; omega)]
end Go.Lg.Tryz
