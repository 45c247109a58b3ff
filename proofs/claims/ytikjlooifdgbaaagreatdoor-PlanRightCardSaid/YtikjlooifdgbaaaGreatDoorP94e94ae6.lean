/- Words and laws that the theorem leans on (part 6). -/
import Derived.Test.YtikjlooifdgbaaaGreatDoorP11355698
import Derived.Test.YtikjlooifdgbaaaGreatDoorP49b084f4
import Derived.Test.YtikjlooifdgbaaaGreatDoorP782905a3
import Derived.Test.YtikjlooifdgbaaaGreatDoorP8c0419da
import Derived.Test.YtikjlooifdgbaaaGreatDoorP36bb1bed
import Derived.Test.YtikjlooifdgbaaaGreatDoorRows
import Derived.Carry
import Derived.Lib.SmallJoins
import Derived.LaidMore
import Derived.PinnedBridge
import Derived.HandedShaped
import Derived.ProofKit
import Derived.OpenShut
import Derived.ShutString
import Derived.SizedLaws
import Derived.Stop.LaidErr
import Derived.Stop.Joined
import Derived.Shelf.Vars
import Derived.Lib.LaidTab
import Derived.MakeChecks
set_option linter.unusedVariables false
set_option linter.unusedSimpArgs false

set_option linter.unusedVariables false
set_option linter.unusedSimpArgs false
namespace Go.Lg.Tryz
open Go Go.Proofs Go.RowKit Go.Lib Go.Lg.Sem
theorem refSteps_ok {c : Ctl} (hlv : LvOk c) {f t : List Int} (hf : rightV c f = true) (ht : rightV c t = true) (hl : f.length ≤ 1000) (hri : ∀ i, i < f.length → riseV c f t i = 0 ∨ riseV c f t i = 1) :
    Fn Tryz.prog Gw 20 [.tr (ctlT c), .tr (.ls (f.map intT)), .tr (.ls (t.map intT))] [] (· = .tr (.ls ((stepsV c f t).map stpT))) := by
  obtain ⟨hfl, hfa⟩ := rightV_at hf
  obtain ⟨htl, hta⟩ := rightV_at ht
  refine Fn.of tab_ok Tryz.func20 rfl (by decide) (by simp [Tryz.f20]) rfl (fun κ v h => by cases h) Gw.below ?_
  repeat' (first|refine zS ?_|refine zR ?_|refine zE tab_ok rfl rfl ?_|refine zN ?_|(refine zG rfl rfl (fun _ => ?_) fun _ => ?_)<;>refine zE tab_ok rfl rfl ?_|(refine zC rfl (fun _ => ?_) fun _ => ?_)<;>try (rename_i h; cases h; done)|refine zB ?_|refine zK ?_|refine zZ ⟨_, rfl, ?_⟩)
  refine Tr.loopS (fun i : Nat => [(.s 1, .tr (.ls (f.map intT))), (.s 2, .tr (.ls (t.map intT))), (.s 3, .ptr (.l 3) 0), (.l 3, .blk 29 [.tr (.ls (c.map svcT))]), (.s 7, .own 115 ((stepsUp c f t i).map stpT)), (.s 8, int i)]) (fun i => f.length - i) (fun i => i ≤ f.length)
    0 (by omega) (Sub.app (l := [_, _, _, _, _, _]) (H := []) ⟨rfl, rfl, rfl, rfl, rfl, rfl, trivial⟩ (fun κ v h => nomatch h)) ?_
  rintro i hi
  have hlen := stepsUp_len c f t i
  repeat' (first|refine zS ?_|refine zR ?_|refine zE tab_ok rfl rfl ?_|refine zN ?_|(refine zG rfl rfl (fun _ => ?_) fun _ => ?_)<;>refine zE tab_ok rfl rfl ?_|(refine zC rfl (fun _ => ?_) fun _ => ?_)<;>try (rename_i h; cases h; done)|refine zB ?_|refine zK ?_|refine zZ ⟨_, rfl, ?_⟩)
  · rename_i h2
    have h2 : decide ((i : Int) < ((f.map intT).length : Int)) = true := h2
    have hlt : i < f.length := by simp only [List.length_map, decide_eq_true_eq] at h2; omega
    obtain ⟨v, s, r, hv, hs, hv0, hr, hrel⟩ := hfa i hlt
    obtain ⟨w, s', g, hw, hs', hw0, hq, hqel⟩ := hta i (by omega)
    obtain rfl : s = s' := by rw [hs] at hs'; exact Option.some.inj hs'
    have hve : (f.map intT)[((i : Nat) : Int).toNat]? = some (intT v) := by simp [hv]
    have hwe : (t.map intT)[((i : Nat) : Int).toNat]? = some (intT w) := by simp [hw]
    have hse : (c.map svcT)[((i : Nat) : Int).toNat]? = some (svcT s) := by simp [hs]
    have hre : (s.rels.map rlsT)[v.toNat]? = some (rlsT r) := by simp [hr]
    have hqe : (s.rels.map rlsT)[w.toNat]? = some (rlsT g) := by simp [hq]
    have hrise : riseV c f t i = g.level - r.level := by unfold riseV lvl; rw [vAt_of hv, vAt_of hw, hrel, hqel]
    have hri := hri i hlt
    have hsucc := stepsUp_succ c f t i
    have hsa : stepsAt c f t i = if v = w then [] else if riseV c f t i = 0 then [⟨i, 2⟩] else [⟨i, 1⟩, ⟨i, 2⟩, ⟨i, 3⟩] := by unfold stepsAt; rw [vAt_of hv, vAt_of hw]
    refine Tr.drawn ( zD tab_ok rfl rfl <| zD tab_ok rfl rfl <| zO rfl (fun q K hK => zI (x := intT v) tab_ok rfl (by omega) (hve) rfl (zN hK)) <| zD tab_ok rfl rfl <| zD tab_ok rfl rfl <| zD tab_ok rfl rfl <| zO rfl (fun q K hK => zI (x := intT w) tab_ok rfl (by omega) (hwe) rfl (zN hK)) <| zD tab_ok rfl rfl <| zD tab_ok rfl rfl <| DSq.nil _) mix_ok rfl ?_
    refine zC rfl (fun h3 => ?_) (fun h3 => ?_)
    · have h3 : (v == w) = true := h3
      rw [beq_iff_eq] at h3
      rw [if_pos h3] at hsa
      rw [hsa, List.append_nil] at hsucc
      refine Tr.exit ?_
      repeat' (first|refine zS ?_|refine zR ?_|refine zE tab_ok rfl rfl ?_|refine zN ?_|(refine zG rfl rfl (fun _ => ?_) fun _ => ?_)<;>refine zE tab_ok rfl rfl ?_|(refine zC rfl (fun _ => ?_) fun _ => ?_)<;>try (rename_i h; cases h; done)|refine zB ?_|refine zK ?_|refine zZ ⟨_, rfl, ?_⟩)
      exact ⟨i + 1, by omega, by omega, Sub.app (l := [_, _, _, _, _, _]) (H := []) ⟨rfl, rfl, rfl, rfl, by rw [hsucc]; rfl, congrArg some (wrapz (by omega) (by omega) (by omega)), trivial⟩ (fun κ v h => nomatch h)⟩
    · have h3 : (v == w) = false := h3
      rw [beq_eq_false_iff_ne] at h3
      rw [if_neg h3] at hsa
      refine zK ?_
      refine zS ?_
      refine Tr.drawn ( zD tab_ok rfl rfl <| zD tab_ok rfl rfl <| zD tab_ok rfl rfl <| zO rfl (fun q K hK => zI (x := svcT s) tab_ok rfl (by omega) (hse) rfl (zN hK)) <| zD tab_ok rfl rfl <| zD tab_ok rfl rfl <| zD tab_ok rfl rfl <| zD tab_ok rfl rfl <| zO rfl (fun q K hK => zI (x := intT w) tab_ok rfl (by omega) (hwe) rfl (zN hK)) <| zD tab_ok rfl rfl <| zO rfl (fun q K hK => zI (x := rlsT g) tab_ok rfl (by omega) (hqe) rfl (zN hK)) <| zD tab_ok rfl rfl <| zD tab_ok rfl rfl <| zD tab_ok rfl rfl <| zD tab_ok rfl rfl <| zD tab_ok rfl rfl <| zO rfl (fun q K hK => zI (x := svcT s) tab_ok rfl (by omega) (hse) rfl (zN hK)) <| zD tab_ok rfl rfl <| zD tab_ok rfl rfl <| zD tab_ok rfl rfl <| zD tab_ok rfl rfl <| zO rfl (fun q K hK => zI (x := intT v) tab_ok rfl (by omega) (hve) rfl (zN hK)) <| zD tab_ok rfl rfl <| zO rfl (fun q K hK => zI (x := rlsT r) tab_ok rfl (by omega) (hre) rfl (zN hK)) <| zD tab_ok rfl rfl <| zD tab_ok rfl rfl <| zD tab_ok rfl rfl <| DSq.nil _) mix_ok rfl ?_
      refine zC rfl (fun h4 => ?_) (fun h4 => ?_)
      · have h4 : decide (g.level > r.level) = true := h4
        rw [decide_eq_true_eq] at h4
        rw [if_neg (by rw [hrise]; omega)] at hsa
        refine zR ?_
        refine zE tab_ok rfl rfl ?_
        refine zE tab_ok rfl rfl ?_
        refine zE tab_ok rfl rfl ?_
        refine zE tab_ok rfl rfl ?_
        refine zE tab_ok rfl rfl ?_
        refine zE tab_ok rfl rfl ?_
        refine zE tab_ok rfl rfl ?_
        refine zE tab_ok rfl rfl ?_
        refine Sq.append tab_ok rfl (fun y hy => by simp only [List.mem_cons, List.not_mem_nil, or_false] at hy; rcases hy with rfl | rfl | rfl <;> rfl) (by simp; omega) ?_
        repeat' (first|refine zS ?_|refine zR ?_|refine zE tab_ok rfl rfl ?_|refine zN ?_|(refine zG rfl rfl (fun _ => ?_) fun _ => ?_)<;>refine zE tab_ok rfl rfl ?_|(refine zC rfl (fun _ => ?_) fun _ => ?_)<;>try (rename_i h; cases h; done)|refine zB ?_|refine zK ?_|refine zZ ⟨_, rfl, ?_⟩)
        exact ⟨i + 1, by omega, by omega, Sub.app (l := [_, _, _, _, _, _]) (H := []) ⟨rfl, rfl, rfl, rfl, by rw [hsucc, hsa, List.map_append]; rfl, congrArg some (wrapz (by omega) (by omega) (by omega)), trivial⟩ (fun κ v h => nomatch h)⟩
      · have h4 : decide (g.level > r.level) = false := h4
        rw [decide_eq_false_iff_not] at h4
        rw [if_pos (by omega)] at hsa
        refine zR ?_
        refine zE tab_ok rfl rfl ?_
        refine zE tab_ok rfl rfl ?_
        refine zE tab_ok rfl rfl ?_
        refine zE tab_ok rfl rfl ?_
        refine Sq.append tab_ok rfl (fun y hy => by simp only [List.mem_singleton] at hy; subst hy; rfl) (by simp; omega) ?_
        repeat' (first|refine zS ?_|refine zR ?_|refine zE tab_ok rfl rfl ?_|refine zN ?_|(refine zG rfl rfl (fun _ => ?_) fun _ => ?_)<;>refine zE tab_ok rfl rfl ?_|(refine zC rfl (fun _ => ?_) fun _ => ?_)<;>try (rename_i h; cases h; done)|refine zB ?_|refine zK ?_|refine zZ ⟨_, rfl, ?_⟩)
        exact ⟨i + 1, by omega, by omega, Sub.app (l := [_, _, _, _, _, _]) (H := []) ⟨rfl, rfl, rfl, rfl, by rw [hsucc, hsa, List.map_append]; rfl, congrArg some (wrapz (by omega) (by omega) (by omega)), trivial⟩ (fun κ v h => nomatch h)⟩
  · rename_i h2
    have h2 : decide ((i : Int) < ((f.map intT).length : Int)) = false := h2
    have : i = f.length := by simp only [List.length_map, decide_eq_false_iff_not] at h2; omega
    subst this
    refine Tr.exit ?_
    repeat' (first|refine zS ?_|refine zR ?_|refine zE tab_ok rfl rfl ?_|refine zN ?_|(refine zG rfl rfl (fun _ => ?_) fun _ => ?_)<;>refine zE tab_ok rfl rfl ?_|(refine zC rfl (fun _ => ?_) fun _ => ?_)<;>try (rename_i h; cases h; done)|refine zB ?_|refine zK ?_|refine zZ ⟨_, rfl, ?_⟩)
    rfl
theorem refPGraph_ok (f t : List Int) (l : List Stp) (e : List (Nat × Nat)) :
    Fn Tryz.prog Gw 25 [.tr (plnT ⟨f, t, l, e⟩)] [] (· = .tr (grT l.length e)) := by
  refine Fn.of tab_ok Tryz.func25 rfl (by decide) (by simp [Tryz.f25]) rfl (fun κ v h => by cases h) Gw.below ?_
  repeat' (first|refine zS ?_|refine zR ?_|refine zE tab_ok rfl rfl ?_|refine zN ?_|(refine zG rfl rfl (fun _ => ?_) fun _ => ?_)<;>refine zE tab_ok rfl rfl ?_|(refine zC rfl (fun _ => ?_) fun _ => ?_)<;>try (rename_i h; cases h; done)|refine zB ?_|refine zK ?_|refine zZ ⟨_, rfl, ?_⟩)
  show AV.tr (.ag [.sc (.int .i64 ((l.map stpT).length : Int)), _]) = _
  rw [List.length_map]
end Go.Lg.Tryz

set_option linter.unusedVariables false
set_option linter.unusedSimpArgs false
namespace Go.Lg.Tryz
open Go Go.Proofs Go.RowKit Go.Lib Go.Lg.Sem
def plainB (f t : List Int) (l : List Stp) (e : List (Nat × Nat)) : Bool := decide (f.length ≤ 30) && (decide (t.length ≤ 30) && (decide (l.length ≤ 40) && decide (e.length ≤ 200)))
set_option maxRecDepth 8192 in
theorem plain_ok (f t : List Int) (l : List Stp) (e : List (Nat × Nat)) (hl : l.length ≤ 1000000) :
    Fn Tryz.prog Gw 19 [.tr (plnT ⟨f, t, l, e⟩)] [] (· = .tup [.tr (plnT ⟨f, t, l, e⟩), bool (plainB f t l e)]) := by
  refine Fn.of tab_ok Tryz.func19 rfl (by decide) (by simp [Tryz.f19]) rfl (fun κ v h => by cases h) Gw.below ?_
  refine zS ?_
  refine zR ?_
  refine zE tab_ok rfl rfl ?_
  refine zE tab_ok rfl rfl ?_
  refine zE tab_ok rfl rfl ?_
  refine zN ?_
  refine zS ?_
  refine zR ?_
  refine zE tab_ok rfl rfl ?_
  refine zE tab_ok rfl rfl ?_
  refine zE tab_ok rfl rfl ?_
  refine zE tab_ok rfl rfl ?_
  refine zE tab_ok rfl rfl ?_
  refine zE tab_ok rfl rfl ?_
  refine Sq.buildN tab_ok rfl rfl ?_
  refine zE tab_ok rfl rfl ?_
  refine zE tab_ok rfl rfl ?_
  refine zN ?_
  refine Tr.turn (fun Γ a w h => RelX.nilOwn tab_ok h (.l 4) 41 115 [_, _] [_] rfl rfl rfl) ?_
  repeat' (first|refine zS ?_|refine zR ?_|refine zE tab_ok rfl rfl ?_|refine zN ?_|(refine zG rfl rfl (fun _ => ?_) fun _ => ?_)<;>refine zE tab_ok rfl rfl ?_|(refine zC rfl (fun _ => ?_) fun _ => ?_)<;>try (rename_i h; cases h; done)|refine zB ?_|refine zK ?_|refine zZ ⟨_, rfl, ?_⟩)
  refine Tr.loopS (fun i : Nat => [(.s 1, .ptr (.l 1) 0), (.l 1, .blk 35 [.tr (.ls (f.map intT)), .tr (.ls (t.map intT)), .tr (.ls (l.map stpT)), .tr (.ls (e.map edT))]), (.s 2, .ptr (.l 2) 0), (.l 2, .blk 41 [.own 3 [], .own 3 [], .own 115 [], .own 66 []]), (.s 4, .ptr (.l 4) 0), (.l 4, .blk 41 [.tr (.ls (f.map intT)), .tr (.ls (t.map intT)), .own 115 ((l.take i).map stpT), .tr (.ls (e.map edT))]), (.s 15, .tr (.ls (l.map stpT))), (.s 16, int (l.map stpT).length), (.s 17, int i)]) (fun i => l.length - i) (fun i => i ≤ l.length)
    0 (by omega) (Sub.app (l := [_, _, _, _, _, _, _, _, _]) (H := []) ⟨rfl, rfl, rfl, rfl, rfl, rfl, rfl, rfl, rfl, trivial⟩ (fun κ v h => nomatch h)) ?_
  rintro i hi
  repeat' (first|refine zS ?_|refine zR ?_|refine zE tab_ok rfl rfl ?_|refine zN ?_|(refine zG rfl rfl (fun _ => ?_) fun _ => ?_)<;>refine zE tab_ok rfl rfl ?_|(refine zC rfl (fun _ => ?_) fun _ => ?_)<;>try (rename_i h; cases h; done)|refine zB ?_|refine zK ?_|refine zZ ⟨_, rfl, ?_⟩)
  · rename_i h2
    have h2 : decide ((i : Int) < ((l.map stpT).length : Int)) = true := h2
    have hlt : i < l.length := by simp only [List.length_map, decide_eq_true_eq] at h2; omega
    obtain ⟨a, ha⟩ : ∃ a, l[i]? = some a := ⟨_, List.getElem?_eq_getElem hlt⟩
    have hae : (l.map stpT)[((i : Nat) : Int).toNat]? = some (stpT a) := by simp [ha]
    have htk : l.take (i + 1) = l.take i ++ [a] := by rw [List.take_add_one, ha]; rfl
    refine zI (x := stpT a) tab_ok rfl (by omega) (hae) rfl ?_
    repeat' (first|refine zS ?_|refine zR ?_|refine zE tab_ok rfl rfl ?_|refine zN ?_|(refine zG rfl rfl (fun _ => ?_) fun _ => ?_)<;>refine zE tab_ok rfl rfl ?_|(refine zC rfl (fun _ => ?_) fun _ => ?_)<;>try (rename_i h; cases h; done)|refine zB ?_|refine zK ?_|refine zZ ⟨_, rfl, ?_⟩)
    refine Sq.append tab_ok rfl (fun y hy => by simp only [List.mem_singleton] at hy; subst hy; rfl) (by simp; omega) ?_
    repeat' (first|refine zS ?_|refine zR ?_|refine zE tab_ok rfl rfl ?_|refine zN ?_|(refine zG rfl rfl (fun _ => ?_) fun _ => ?_)<;>refine zE tab_ok rfl rfl ?_|(refine zC rfl (fun _ => ?_) fun _ => ?_)<;>try (rename_i h; cases h; done)|refine zB ?_|refine zK ?_|refine zZ ⟨_, rfl, ?_⟩)
    exact ⟨i + 1, by omega, by omega, Sub.app (l := [_, _, _, _, _, _, _, _, _]) (H := []) ⟨rfl, rfl, rfl, rfl, rfl, by rw [htk, List.map_append]; rfl, rfl, rfl, congrArg some (wrapz (by omega) (by omega) (by omega)), trivial⟩ (fun κ v h => nomatch h)⟩
  · rename_i h2
    have h2 : decide ((i : Int) < ((l.map stpT).length : Int)) = false := h2
    have : i = l.length := by simp only [List.length_map, decide_eq_false_iff_not] at h2; omega
    subst this
    refine Tr.exit ?_
    rw [List.take_of_length_le (Nat.le_refl _)]
    have ei : ∀ {α : Type} (g : α → T) (xs : List α) (k : Nat), decide (((xs.map g).length : Int) ≤ (k : Int)) = decide (xs.length ≤ k) := fun g xs k => by
      rw [List.length_map]; simp
    unfold plainB
    cases d1 : decide (f.length ≤ 30)
    · have d1 := (ei intT f 30).trans d1
      refine zS ?_
      refine Tr.drawn ( zD tab_ok rfl rfl <| zD tab_ok rfl rfl <| zD tab_ok rfl rfl <| zD tab_ok rfl rfl <| DSq.evr tab_ok rfl (congrArg bool d1) <| zD tab_ok rfl rfl <| zD tab_ok rfl rfl <| zD tab_ok rfl rfl <| zD tab_ok rfl rfl <| zD tab_ok rfl rfl <| zD tab_ok rfl rfl <| zD tab_ok rfl rfl <| zD tab_ok rfl rfl <| zD tab_ok rfl rfl <| zD tab_ok rfl rfl <| zD tab_ok rfl rfl <| zD tab_ok rfl rfl <| zD tab_ok rfl rfl <| zD tab_ok rfl rfl <| zD tab_ok rfl rfl <| zD tab_ok rfl rfl <| zD tab_ok rfl rfl <| zD tab_ok rfl rfl <| zD tab_ok rfl rfl <| zD tab_ok rfl rfl <| DSq.nil _) mix_ok rfl ?_
      repeat' (first|refine zS ?_|refine zR ?_|refine zE tab_ok rfl rfl ?_|refine zN ?_|(refine zG rfl rfl (fun _ => ?_) fun _ => ?_)<;>refine zE tab_ok rfl rfl ?_|(refine zC rfl (fun _ => ?_) fun _ => ?_)<;>try (rename_i h; cases h; done)|refine zB ?_|refine zK ?_|refine zZ ⟨_, rfl, ?_⟩)
      rfl
    have d1 := (ei intT f 30).trans d1
    cases d2 : decide (t.length ≤ 30)
    · have d2 := (ei intT t 30).trans d2
      refine zS ?_
      refine Tr.drawn ( zD tab_ok rfl rfl <| zD tab_ok rfl rfl <| zD tab_ok rfl rfl <| zD tab_ok rfl rfl <| DSq.evr tab_ok rfl (congrArg bool d1) <| zD tab_ok rfl rfl <| zD tab_ok rfl rfl <| zD tab_ok rfl rfl <| zD tab_ok rfl rfl <| DSq.evr tab_ok rfl (congrArg bool d2) <| zD tab_ok rfl rfl <| zD tab_ok rfl rfl <| zD tab_ok rfl rfl <| zD tab_ok rfl rfl <| zD tab_ok rfl rfl <| zD tab_ok rfl rfl <| zD tab_ok rfl rfl <| zD tab_ok rfl rfl <| zD tab_ok rfl rfl <| zD tab_ok rfl rfl <| zD tab_ok rfl rfl <| zD tab_ok rfl rfl <| zD tab_ok rfl rfl <| zD tab_ok rfl rfl <| zD tab_ok rfl rfl <| DSq.nil _) mix_ok rfl ?_
      repeat' (first|refine zS ?_|refine zR ?_|refine zE tab_ok rfl rfl ?_|refine zN ?_|(refine zG rfl rfl (fun _ => ?_) fun _ => ?_)<;>refine zE tab_ok rfl rfl ?_|(refine zC rfl (fun _ => ?_) fun _ => ?_)<;>try (rename_i h; cases h; done)|refine zB ?_|refine zK ?_|refine zZ ⟨_, rfl, ?_⟩)
      rfl
    have d2 := (ei intT t 30).trans d2
    cases d3 : decide (l.length ≤ 40)
    · have d3 := (ei stpT l 40).trans d3
      refine zS ?_
      refine Tr.drawn ( zD tab_ok rfl rfl <| zD tab_ok rfl rfl <| zD tab_ok rfl rfl <| zD tab_ok rfl rfl <| DSq.evr tab_ok rfl (congrArg bool d1) <| zD tab_ok rfl rfl <| zD tab_ok rfl rfl <| zD tab_ok rfl rfl <| zD tab_ok rfl rfl <| DSq.evr tab_ok rfl (congrArg bool d2) <| zD tab_ok rfl rfl <| zD tab_ok rfl rfl <| zD tab_ok rfl rfl <| zD tab_ok rfl rfl <| zD tab_ok rfl rfl <| DSq.evr tab_ok rfl (congrArg bool d3) <| zD tab_ok rfl rfl <| zD tab_ok rfl rfl <| zD tab_ok rfl rfl <| zD tab_ok rfl rfl <| zD tab_ok rfl rfl <| zD tab_ok rfl rfl <| zD tab_ok rfl rfl <| zD tab_ok rfl rfl <| zD tab_ok rfl rfl <| DSq.nil _) mix_ok rfl ?_
      repeat' (first|refine zS ?_|refine zR ?_|refine zE tab_ok rfl rfl ?_|refine zN ?_|(refine zG rfl rfl (fun _ => ?_) fun _ => ?_)<;>refine zE tab_ok rfl rfl ?_|(refine zC rfl (fun _ => ?_) fun _ => ?_)<;>try (rename_i h; cases h; done)|refine zB ?_|refine zK ?_|refine zZ ⟨_, rfl, ?_⟩)
      rfl
    have d3 := (ei stpT l 40).trans d3
    have d4 := ei edT e 200
    generalize decide (e.length ≤ 200) = b4 at *
    refine zS ?_
    refine Tr.drawn ( zD tab_ok rfl rfl <| zD tab_ok rfl rfl <| zD tab_ok rfl rfl <| zD tab_ok rfl rfl <| DSq.evr tab_ok rfl (congrArg bool d1) <| zD tab_ok rfl rfl <| zD tab_ok rfl rfl <| zD tab_ok rfl rfl <| zD tab_ok rfl rfl <| DSq.evr tab_ok rfl (congrArg bool d2) <| zD tab_ok rfl rfl <| zD tab_ok rfl rfl <| zD tab_ok rfl rfl <| zD tab_ok rfl rfl <| zD tab_ok rfl rfl <| DSq.evr tab_ok rfl (congrArg bool d3) <| zD tab_ok rfl rfl <| zD tab_ok rfl rfl <| zD tab_ok rfl rfl <| zD tab_ok rfl rfl <| zD tab_ok rfl rfl <| DSq.evr tab_ok rfl (congrArg bool d4) <| zD tab_ok rfl rfl <| zD tab_ok rfl rfl <| zD tab_ok rfl rfl <| DSq.nil _) mix_ok rfl ?_
    repeat' (first|refine zS ?_|refine zR ?_|refine zE tab_ok rfl rfl ?_|refine zN ?_|(refine zG rfl rfl (fun _ => ?_) fun _ => ?_)<;>refine zE tab_ok rfl rfl ?_|(refine zC rfl (fun _ => ?_) fun _ => ?_)<;>try (rename_i h; cases h; done)|refine zB ?_|refine zK ?_|refine zZ ⟨_, rfl, ?_⟩)
    rfl
end Go.Lg.Tryz

set_option linter.unusedVariables false
set_option linter.unusedSimpArgs false
namespace Go.Lg.Tryz
open Go Go.Proofs Go.RowKit Go.Lib Go.Lg.Sem
theorem eqA_rstp (d : Nat) (w : World) (x0 y0 x1 y1 : Int) : (Op.equalIn (d + 2) 115 (.agg #[.int .i64 x0, .int .i64 x1]) (.agg #[.int .i64 y0, .int .i64 y1])).run Tryz.prog w = .ok (x0 == y0 && x1 == y1) w := by
  refine eqA_of Tryz.underlying115 (by kernel_rfl) ?_
  refine eqf_cons (by rfl) (by go_simp; rfl) (by go_simp; rfl) (by go_simp) ?_
  exact eqf_last (by rfl) (by go_simp; rfl) (by go_simp; rfl) (by go_simp)
theorem cycP_ex (n : Nat) (es : List (Nat × Nat)) : ∃ cyc : Bool, cyc = true ↔ CycP n es := by
  classical exact ⟨decide (CycP n es), by simp⟩
end Go.Lg.Tryz

set_option linter.unusedVariables false
set_option linter.unusedSimpArgs false
namespace Go.Lg.Tryz
open Go Go.Proofs Go.RowKit Go.Lib Go.Lg.Sem
end Go.Lg.Tryz

set_option linter.unusedVariables false
set_option linter.unusedSimpArgs false
namespace Go.Lg.Tryz
open Go Go.Proofs Go.RowKit Go.Lib Go.Lg.Sem
def nowV (f t : List Int) (g : BitVec 64) (i : Nat) : Int := if g.getLsbD i then vAt t i else vAt f i
def doneUp (f t : List Int) (g : BitVec 64) (k : Nat) : Bool := (List.range k).all fun i => nowV f t g i == vAt t i
def okB (c : Ctl) (f t : List Int) (g : BitVec 64) : Bool := (List.range f.length).all fun i => (List.range i).all fun j => fitsB c i (nowV f t g i) j (nowV f t g j)
def ordB (c : Ctl) (f t : List Int) : Nat → BitVec 64 → Bool
  | 0, g => okB c f t g && doneUp f t g f.length
  | n + 1, g => okB c f t g && (doneUp f t g f.length || (List.range f.length).any fun i => (nowV f t g i != vAt t i) && ordB c f t n (g ||| 1#64 <<< i))
end Go.Lg.Tryz

set_option linter.unusedVariables false
set_option linter.unusedSimpArgs false
namespace Go.Lg.Tryz
open Go Go.Proofs Go.RowKit Go.Lib Go.Lg.Sem
theorem in_bit (g : BitVec 64) (k : Nat) : (Int.tmod ((g >>> k).toNat : Int) 2 == 1) = g.getLsbD k := by
  have h1 : Int.tmod ((g >>> k).toNat : Int) 2 = (((g >>> k).toNat % 2 : Nat) : Int) := rfl
  have h2 : g.getLsbD k = (g >>> k).getLsbD 0 := by rw [BitVec.getLsbD_ushiftRight, Nat.add_zero]
  rw [h1, h2]
  show _ = (g >>> k).toNat.testBit 0
  rw [Nat.testBit_zero, Bool.eq_iff_iff, beq_iff_eq, decide_eq_true_eq]
  omega
theorem In_ok (g : BitVec 64) (k : Nat) (hk : k ≤ 63) : Fn Tryz.prog Gw 24 [u64 g, int k] [] (· = bool (g.getLsbD k)) := by
  refine Fn.of tab_ok Tryz.func24 rfl (by decide) (by simp [Tryz.f24]) rfl (fun κ v h => by cases h) Gw.below ?_
  repeat' (first|refine zS ?_|refine zR ?_|refine zE tab_ok rfl rfl ?_|refine zN ?_|(refine zG rfl rfl (fun _ => ?_) fun _ => ?_)<;>refine zE tab_ok rfl rfl ?_|(refine zC rfl (fun _ => ?_) fun _ => ?_)<;>try (rename_i h; cases h; done)|refine zB ?_|refine zK ?_|refine zZ ⟨_, rfl, ?_⟩)
  refine Sq.shift rfl g k rfl rfl (by omega) ?_
  refine Sq.div (q := false) rfl (by decide) rfl ?_
  repeat' (first|refine zS ?_|refine zR ?_|refine zE tab_ok rfl rfl ?_|refine zN ?_|(refine zG rfl rfl (fun _ => ?_) fun _ => ?_)<;>refine zE tab_ok rfl rfl ?_|(refine zC rfl (fun _ => ?_) fun _ => ?_)<;>try (rename_i h; cases h; done)|refine zB ?_|refine zK ?_|refine zZ ⟨_, rfl, ?_⟩)
  show bool (Int.tmod ((g >>> k).toNat : Int) 2 == 1) = _
  rw [in_bit]
end Go.Lg.Tryz

set_option linter.unusedVariables false
set_option linter.unusedSimpArgs false
namespace Go.Lg.Tryz
open Go Go.Proofs Go.RowKit Go.Lib Go.Lg.Sem
end Go.Lg.Tryz

set_option linter.unusedVariables false
set_option linter.unusedSimpArgs false
namespace Go.Lg.Tryz
open Go Go.Proofs Go.RowKit Go.Lib Go.Lg.Sem
abbrev pT' (p : Int × Int) : T := pT p.1 p.2
def fltL (L : List (Int × Int)) : List AV := ((L.map pT').flatMap T.cells).map .tr
theorem flt_cons (p : Int × Int) (L : List (Int × Int)) : fltL (p :: L) = int p.1 :: int p.2 :: fltL L := rfl
theorem flt_at0 : ∀ (L : List (Int × Int)) (U : List AV) (i : Nat) (p : Int × Int), L[i]? = some p → (fltL L ++ U)[i * 2]? = some (int p.1)
  | [], U, i, p, h => by simp at h
  | q :: L, U, 0, p, h => by simp at h; subst h; rfl
  | q :: L, U, i + 1, p, h => by
    rw [show (i + 1) * 2 = i * 2 + 1 + 1 by omega, flt_cons, List.cons_append, List.cons_append, List.getElem?_cons_succ, List.getElem?_cons_succ]
    exact flt_at0 L U i p (by simpa using h)
theorem flt_at1 : ∀ (L : List (Int × Int)) (U : List AV) (i : Nat) (p : Int × Int), L[i]? = some p → (fltL L ++ U)[i * 2 + 1]? = some (int p.2)
  | [], U, i, p, h => by simp at h
  | q :: L, U, 0, p, h => by simp at h; subst h; rfl
  | q :: L, U, i + 1, p, h => by
    rw [show (i + 1) * 2 + 1 = i * 2 + 1 + 1 + 1 by omega, flt_cons, List.cons_append, List.cons_append, List.getElem?_cons_succ, List.getElem?_cons_succ]
    exact flt_at1 L U i p (by simpa using h)
theorem flt_set0 : ∀ (L : List (Int × Int)) (U : List AV) (i : Nat) (p : Int × Int) (v : Int), L[i]? = some p → (fltL L ++ U).set (i * 2) (int v) = fltL (L.set i (v, p.2)) ++ U
  | [], U, i, p, v, h => by simp at h
  | q :: L, U, 0, p, v, h => by simp at h; subst h; rfl
  | q :: L, U, i + 1, p, v, h => by
    rw [show (i + 1) * 2 = i * 2 + 1 + 1 by omega, flt_cons, List.cons_append, List.cons_append, List.set_cons_succ, List.set_cons_succ, flt_set0 L U i p v (by simpa using h), List.set_cons_succ]; rfl
theorem flt_set1 : ∀ (L : List (Int × Int)) (U : List AV) (i : Nat) (p : Int × Int) (v : Int), L[i]? = some p → (fltL L ++ U).set (i * 2 + 1) (int v) = fltL (L.set i (p.1, v)) ++ U
  | [], U, i, p, v, h => by simp at h
  | q :: L, U, 0, p, v, h => by simp at h; subst h; rfl
  | q :: L, U, i + 1, p, v, h => by
    rw [show (i + 1) * 2 + 1 = i * 2 + 1 + 1 + 1 by omega, flt_cons, List.cons_append, List.cons_append, List.set_cons_succ, List.set_cons_succ, flt_set1 L U i p v (by simpa using h), List.set_cons_succ]; rfl
theorem flt_len (L : List (Int × Int)) : (fltL L).length = L.length * 2 := by
  induction L with
  | nil => rfl
  | cons p L ih => rw [flt_cons, List.length_cons, List.length_cons, ih, List.length_cons]; omega
theorem flt_hc : ∀ (L : List (Int × Int)) (U : List AV) (i j : Nat) (x y : T), (L.map pT')[i]? = some x → x.cells[j]? = some y → ∃ v, (fltL L ++ U)[i * 2 + j]? = some v ∧ v.deg = .tr y
  | [], U, i, j, x, y, h, _ => by simp at h
  | q :: L, U, 0, j, x, y, h, hy => by
    simp at h; subst h
    match j with
    | 0 => obtain rfl := Option.some.inj hy; exact ⟨int q.1, rfl, rfl⟩
    | 1 => obtain rfl := Option.some.inj hy; exact ⟨int q.2, rfl, rfl⟩
    | j + 2 => cases hy
  | q :: L, U, i + 1, j, x, y, h, hy => by
    rw [show (i + 1) * 2 + j = (i * 2 + j) + 1 + 1 by omega, flt_cons, List.cons_append, List.cons_append, List.getElem?_cons_succ, List.getElem?_cons_succ]
    exact flt_hc L U i j x y (by simpa using h) hy
def movedV (f t : List Int) (a : Stp) (L : List (Int × Int)) : List (Int × Int) := match L[a.s]? with
  | some p => if a.k = 2 then L.set a.s (p.1 + (vAt t a.s - vAt f a.s), p.2) else L.set a.s (p.1, p.2 + 1)
  | none => L
set_option maxRecDepth 8192 in
theorem Moved_ok (f t : List Int) (l : List Stp) (e : List (Nat × Nat)) (L : List (Int × Int)) {k : Nat} {a : Stp} (ha : l[k]? = some a) (hak : a.k ≤ 3) {p : Int × Int} (hp : L[a.s]? = some p) {v w : Int} (hv : f[a.s]? = some v) (hw : t[a.s]? = some w)
    (b1 : -10000 ≤ p.1 ∧ p.1 ≤ 10000) (b2 : -10000 ≤ p.2 ∧ p.2 ≤ 10000) (b3 : 0 ≤ v ∧ v ≤ 1000) (b4 : 0 ≤ w ∧ w ≤ 1000) (hL : L.length ≤ 1000) (hk : k ≤ 1000) :
    Fn Tryz.prog Gw 68 [.tr (plnT ⟨f, t, l, e⟩), .tr (.ls (L.map pT')), int k] [] (· = .tr (.ls ((movedV f t a L).map pT'))) := by
  have hae : (l.map stpT)[((k : Nat) : Int).toNat]? = some (stpT a) := by simp [ha]
  have hve : (f.map intT)[((a.s : Nat) : Int).toNat]? = some (intT v) := by simp [hv]
  have hwe : (t.map intT)[((a.s : Nat) : Int).toNat]? = some (intT w) := by simp [hw]
  have hsl := (List.getElem?_eq_some_iff.1 hp).1
  have hmv : movedV f t a L = if a.k = 2 then L.set a.s (p.1 + (w - v), p.2) else L.set a.s (p.1, p.2 + 1) := by
    unfold movedV; rw [hp, vAt_of hv, vAt_of hw]
  rw [hmv]
  refine Fn.of tab_ok Tryz.func68 rfl (by decide) (by simp [Tryz.f68]) rfl (fun κ v h => by cases h) Gw.below ?_
  refine zS ?_
  refine zR ?_
  refine zE tab_ok rfl rfl ?_
  refine zE tab_ok rfl rfl ?_
  refine zN ?_
  refine zS ?_
  refine zR ?_
  refine Sq.lit0R tab_ok rfl ?_
  refine zE tab_ok rfl rfl ?_
  refine Sq.appendR tab_ok rfl (fun y hy => by obtain ⟨a, _, rfl⟩ := List.mem_map.1 hy; rfl) (by rw [List.length_map]; simp; omega) ?_
  refine zE tab_ok rfl rfl ?_
  refine zN ?_
  refine zS ?_
  refine zR ?_
  refine zE tab_ok rfl rfl ?_
  refine zE tab_ok rfl rfl ?_
  refine zE tab_ok rfl rfl ?_
  refine zI (x := stpT a) tab_ok rfl (by omega) (hae) rfl ?_
  refine zE tab_ok rfl rfl ?_
  refine zE tab_ok rfl rfl ?_
  refine zE tab_ok rfl rfl ?_
  refine zN ?_
  refine zS ?_
  refine zS ?_
  refine zR ?_
  refine zE tab_ok rfl rfl ?_
  refine zE tab_ok rfl rfl ?_
  refine zE tab_ok rfl rfl ?_
  refine zN ?_
  have thw : ∀ (Q : Exit → Store → Prop) (cc : Code) (m : Store), SubL [(.s 3, .ptr (.l 3) 0), (.l 3, .blk 41 [.tr (.ls (f.map intT)), .tr (.ls (t.map intT)), .tr (.ls (l.map stpT)), .tr (.ls (e.map edT))]), (.s 8, .ptr (.l 8) 0), (.l 8, .blk 115 [int a.s, int a.k]), (.s 7, .raw 88 true (L.map pT'))] m →
      (∀ cap U, L.length ≤ cap → Tr Tryz.prog ⟨Gw, []⟩ Tryz.f68.ntmps cc ((.s 7, .sl (.l 1000) L.length cap) :: (.l 1000, .blk 88 (fltL L ++ U)) :: [(.s 3, .ptr (.l 3) 0), (.l 3, .blk 41 [.tr (.ls (f.map intT)), .tr (.ls (t.map intT)), .tr (.ls (l.map stpT)), .tr (.ls (e.map edT))]), (.s 8, .ptr (.l 8) 0), (.l 8, .blk 115 [int a.s, int a.k]), (.s 7, .raw 88 true (L.map pT'))]) Q) → Tr Tryz.prog ⟨Gw, []⟩ Tryz.f68.ntmps cc m Q := by
    intro Q cc m hm hk
    refine Tr.sub (m' := [_, _, _, _, _]) hm ?_
    refine Tr.thaw tab_ok 7 (.l 1000) (xs := L.map pT') rfl (by intro h; have := congrArg List.length h; rw [List.length_map] at this; simp at this; subst this; simp at hsl) rfl (by decide) rfl rfl ?_
    intro cap hcap
    rw [List.length_map] at hcap ⊢
    exact hk cap _ hcap
  refine zC rfl (fun h2 => ?_) (fun h2 => ?_) <;> refine thw _ _ _ ⟨rfl, rfl, rfl, rfl, rfl, trivial⟩ (fun cap U hcap => ?_) <;> have hp0 := flt_at0 L U a.s p hp <;> have hp1 := flt_at1 L U a.s p hp
  · have h2 : ((a.k : Int) == 2) = true := h2
    have h2 : a.k = 2 := by rw [beq_iff_eq] at h2; omega
    rw [if_pos h2]
    have hset := flt_set0 L U a.s p (p.1 + (w - v)) hp
    refine Tr.drawn ( zD tab_ok rfl rfl <| zD tab_ok rfl rfl <| zD tab_ok rfl rfl <| zO rfl (fun q K hK => Sq.indexS (j := ((a.s : Nat) : Int)) (len := L.length) tab_ok rfl (by omega) (by omega) (zN hK)) <| zD tab_ok rfl rfl <| zO rfl (fun q K hK => Sq.loadS (v := int p.1) tab_ok rfl (by rw [Int.toNat_natCast]; exact hp0) (zN hK)) <| zD tab_ok rfl rfl <| zD tab_ok rfl rfl <| zD tab_ok rfl rfl <| zD tab_ok rfl rfl <| zO rfl (fun q K hK => zI (x := intT w) tab_ok rfl (by omega) (hwe) rfl (zN hK)) <| zD tab_ok rfl rfl <| zD tab_ok rfl rfl <| zD tab_ok rfl rfl <| zD tab_ok rfl rfl <| zD tab_ok rfl rfl <| zO rfl (fun q K hK => zI (x := intT v) tab_ok rfl (by omega) (hve) rfl (zN hK)) <| zD tab_ok rfl rfl <| DSq.evr tab_ok rfl (congrArg int (Go.IntWalk.i64_in (w - v) ⟨by omega, by omega⟩)) <| DSq.evr tab_ok rfl (congrArg int (Go.IntWalk.i64_in (p.1 + (w - v)) ⟨by omega, by omega⟩)) <| zO rfl (fun q K hK => Sq.indexS (j := ((a.s : Nat) : Int)) (len := L.length) tab_ok rfl (by omega) (by omega) (zN hK)) <| zD tab_ok rfl rfl <| DSq.blk rfl (fun q K hK => Sq.storeS tab_ok rfl (by show ((a.s : Nat) : Int).toNat * 2 + 0 < _; rw [List.length_append, flt_len]; omega) (zN hK)) <| DSq.nil _) mix_ok rfl ?_
    have hset' : (fltL L ++ U).set (((a.s : Nat) : Int).toNat * 2 + 0) (int (p.1 + (w - v))) = fltL (L.set a.s (p.1 + (w - v), p.2)) ++ U := by rw [Int.toNat_natCast]; exact hset
    have hLl : (L.set a.s (p.1 + (w - v), p.2)).length = L.length := List.length_set
    refine Tr.sub (m' := [(.s 7, .sl (.l 1000) L.length cap), (.l 1000, .blk 88 (fltL (L.set a.s (p.1 + (w - v), p.2)) ++ U))]) ⟨rfl, by rw [← hset']; rfl, trivial⟩ ?_
    generalize L.set a.s (p.1 + (w - v), p.2) = L' at *
    refine Tr.turn (fun Γ a w h => RelX.freeze (es := 2) (xs := L'.map pT') (cap := cap) (len := L.length) (cells := fltL L' ++ U) h (s := 7) (κ := .l 1000) rfl rfl rfl (by rw [List.length_map]; exact hLl) (by rw [List.length_append, flt_len]; omega) (by intro x hx; obtain ⟨a, _, rfl⟩ := List.mem_map.1 hx; rfl) (flt_hc L' U)) ?_
    repeat' (first|refine zS ?_|refine zR ?_|refine zE tab_ok rfl rfl ?_|refine zN ?_|(refine zG rfl rfl (fun _ => ?_) fun _ => ?_)<;>refine zE tab_ok rfl rfl ?_|(refine zC rfl (fun _ => ?_) fun _ => ?_)<;>try (rename_i h; cases h; done)|refine zB ?_|refine zK ?_|refine zZ ⟨_, rfl, ?_⟩)
    rfl
  · have h2 : ((a.k : Int) == 2) = false := h2
    have h2 : a.k ≠ 2 := by rw [beq_eq_false_iff_ne] at h2; omega
    rw [if_neg h2]
    have hset := flt_set1 L U a.s p (p.2 + 1) hp
    have hw1 : IntKind.i64.wrap (p.2 + 1) = p.2 + 1 := Go.IntWalk.i64_in _ ⟨by omega, by omega⟩
    refine zR ?_
    refine zE tab_ok rfl rfl ?_
    refine zE tab_ok rfl rfl ?_
    refine zE tab_ok rfl rfl ?_
    refine Sq.indexS (j := ((a.s : Nat) : Int)) (len := L.length) tab_ok rfl (by omega) (by omega) ?_
    refine zE tab_ok rfl rfl ?_
    refine Sq.loadS (v := int p.2) tab_ok rfl (by rw [Int.toNat_natCast]; exact hp1) ?_
    refine zE tab_ok rfl rfl ?_
    rw [hw1]
    refine Sq.indexS (j := ((a.s : Nat) : Int)) (len := L.length) tab_ok rfl (by omega) (by omega) ?_
    refine zE tab_ok rfl rfl ?_
    refine Sq.storeS tab_ok rfl (by show ((a.s : Nat) : Int).toNat * 2 + 1 < _; rw [List.length_append, flt_len]; omega) ?_
    refine zN ?_
    have hset' : (fltL L ++ U).set (((a.s : Nat) : Int).toNat * 2 + 1) (int (p.2 + 1)) = fltL (L.set a.s (p.1, p.2 + 1)) ++ U := by rw [Int.toNat_natCast]; exact hset
    have hLl : (L.set a.s (p.1, p.2 + 1)).length = L.length := List.length_set
    refine Tr.sub (m' := [(.s 7, .sl (.l 1000) L.length cap), (.l 1000, .blk 88 (fltL (L.set a.s (p.1, p.2 + 1)) ++ U))]) ⟨rfl, by rw [← hset']; rfl, trivial⟩ ?_
    generalize L.set a.s (p.1, p.2 + 1) = L' at *
    refine Tr.turn (fun Γ a w h => RelX.freeze (es := 2) (xs := L'.map pT') (cap := cap) (len := L.length) (cells := fltL L' ++ U) h (s := 7) (κ := .l 1000) rfl rfl rfl (by rw [List.length_map]; exact hLl) (by rw [List.length_append, flt_len]; omega) (by intro x hx; obtain ⟨a, _, rfl⟩ := List.mem_map.1 hx; rfl) (flt_hc L' U)) ?_
    repeat' (first|refine zS ?_|refine zR ?_|refine zE tab_ok rfl rfl ?_|refine zN ?_|(refine zG rfl rfl (fun _ => ?_) fun _ => ?_)<;>refine zE tab_ok rfl rfl ?_|(refine zC rfl (fun _ => ?_) fun _ => ?_)<;>try (rename_i h; cases h; done)|refine zB ?_|refine zK ?_|refine zZ ⟨_, rfl, ?_⟩)
    rfl
end Go.Lg.Tryz

set_option linter.unusedVariables false
set_option linter.unusedSimpArgs false
namespace Go.Lg.Tryz
open Go Go.Proofs Go.RowKit Go.Lib Go.Lg.Sem
def chs (g : BitVec 64) (l : List Stp) (k : Nat) : List Stp := (List.range k).filterMap fun j => if g.getLsbD j then l[j]? else none
theorem chs_succ {g : BitVec 64} {l : List Stp} {k : Nat} {a : Stp} (ha : l[k]? = some a) : chs g l (k + 1) = chs g l k ++ (if g.getLsbD k then [a] else []) := by
  unfold chs
  rw [List.range_succ, List.filterMap_append]
  congr 1
  cases h : g.getLsbD k
  · simp [h]
  · simp [h, ha]
theorem chs_len (g : BitVec 64) (l : List Stp) (k : Nat) : (chs g l k).length ≤ k := by
  unfold chs
  exact Nat.le_trans (List.length_filterMap_le _ _) (by simp)
def fleetL (c : Ctl) (f t : List Int) (ch : List Stp) : List (Int × Int) := (List.range f.length).map (fleetAt c f t ch)
theorem fleetL_at (c : Ctl) (f t : List Int) (ch : List Stp) {i : Nat} (hi : i < f.length) : (fleetL c f t ch)[i]? = some (fleetAt c f t ch i) := by
  unfold fleetL; rw [List.getElem?_map, List.getElem?_range hi]; rfl
theorem fleetL_len (c : Ctl) (f t : List Int) (ch : List Stp) : (fleetL c f t ch).length = f.length := by unfold fleetL; simp
theorem fleet_snoc (c : Ctl) (f t : List Int) (ch : List Stp) (a : Stp) (i : Nat) : fleetAt c f t (ch ++ [a]) i = if a.s = i then (if a.k = 2 then ((fleetAt c f t ch i).1 + (vAt t i - vAt f i), (fleetAt c f t ch i).2) else ((fleetAt c f t ch i).1, (fleetAt c f t ch i).2 + 1)) else fleetAt c f t ch i := by
  unfold fleetAt
  rw [cnt2_snoc, cntF_snoc]
  by_cases h : a.s = i
  · rw [if_pos h]
    by_cases h2 : a.k = 2
    · rw [if_pos ⟨h, h2⟩, if_neg (by simp [h2]), if_pos h2]
      simp only [Nat.add_zero, Prod.mk.injEq, and_true]
      rw [Int.natCast_add, Int.add_mul]; simp; omega
    · rw [if_neg (by simp [h2]), if_pos ⟨h, h2⟩, if_neg h2]
      simp only [Nat.add_zero, Prod.mk.injEq, true_and]
      omega
  · rw [if_neg (by simp [h]), if_neg (by simp [h]), if_neg h]; simp
theorem moved_fleet (c : Ctl) (f t : List Int) (ch : List Stp) (a : Stp) (ha : a.s < f.length) : movedV f t a (fleetL c f t ch) = fleetL c f t (ch ++ [a]) := by
  apply List.ext_getElem?
  intro i
  have hm : movedV f t a (fleetL c f t ch) = if a.k = 2 then (fleetL c f t ch).set a.s ((fleetAt c f t ch a.s).1 + (vAt t a.s - vAt f a.s), (fleetAt c f t ch a.s).2) else (fleetL c f t ch).set a.s ((fleetAt c f t ch a.s).1, (fleetAt c f t ch a.s).2 + 1) := by
    unfold movedV; rw [fleetL_at c f t ch ha]
  rw [hm]
  by_cases hi : i < f.length
  · rw [fleetL_at c f t _ hi, fleet_snoc]
    by_cases h : a.s = i
    · subst h
      rw [if_pos rfl]
      split
      · rw [List.getElem?_set_self (by rw [fleetL_len]; exact ha)]
      · rw [List.getElem?_set_self (by rw [fleetL_len]; exact ha)]
    · rw [if_neg h]
      split
      · rw [List.getElem?_set_ne h, fleetL_at c f t _ hi]
      · rw [List.getElem?_set_ne h, fleetL_at c f t _ hi]
  · rw [List.getElem?_eq_none (by split <;> rw [List.length_set, fleetL_len] <;> omega), List.getElem?_eq_none (by rw [fleetL_len]; omega)]
theorem cnt_le (ch : List Stp) (i : Nat) : cnt2 ch i ≤ ch.length ∧ cntF ch i ≤ ch.length := ⟨List.length_filter_le _ _, List.length_filter_le _ _⟩
theorem fleet0 {c : Ctl} {f : List Int} (t : List Int) (hr : rightV c f = true) : (fleetL c f t []).map pT' = (pls c f).map rPl := by
  apply List.ext_getElem?
  intro i
  by_cases hi : i < f.length
  · obtain ⟨v, s, r, hv, hs, hv0, hrv, hrel⟩ := (rightV_at hr).2 i hi
    have e : plAt c f i = ⟨floatOfInt .f64 v, floatOfInt .f64 (2 * r.level), v, 2 * r.level⟩ := by unfold plAt; rw [hv]; simp only; rw [hrel]
    have h1 : (pls c f)[i]? = some (plAt c f i) := by unfold pls; rw [List.getElem?_map, List.getElem?_range hi]; rfl
    rw [List.getElem?_map, List.getElem?_map, fleetL_at c f t [] hi, h1, e]
    show some (pT (vAt f i + ((0 : Nat) : Int) * (vAt t i - vAt f i)) (2 * lvl c i (vAt f i) + ((0 : Nat) : Int))) = some (pT v (2 * r.level))
    rw [vAt_of hv]
    have : lvl c i v = r.level := by unfold lvl; rw [hrel]
    rw [this]
    simp
  · rw [List.getElem?_eq_none (by rw [List.length_map, fleetL_len]; omega), List.getElem?_eq_none (by rw [List.length_map]; unfold pls; simp; omega)]
theorem refFleet_ok {c : Ctl} (hc : c.length ≤ 1000) (hlv : LvOk c) {f t : List Int} (hf : rightV c f = true) (ht : rightV c t = true) (l : List Stp) (e : List (Nat × Nat)) (hl : l.length ≤ 63) (hin : ∀ a, a ∈ l → a.s < f.length ∧ a.k ≤ 3) (g : BitVec 64) :
    Fn Tryz.prog Gw 29 [.tr (ctlT c), .tr (plnT ⟨f, t, l, e⟩), u64 g] [] (· = .tr (.ls ((fleetL c f t (chs g l l.length)).map pT'))) := by
  have hS := refSettled_ok (by omega) hlv f hf
  rw [← pls_r, ← fleet0 t hf] at hS
  obtain ⟨hfl, hfa⟩ := rightV_at hf
  obtain ⟨htl, hta⟩ := rightV_at ht
  refine Fn.of tab_ok Tryz.func29 rfl (by decide) (by simp [Tryz.f29]) rfl (fun κ v h => by cases h) Gw.below ?_
  repeat' (first|refine zS ?_|refine zR ?_|refine zE tab_ok rfl rfl ?_|refine zN ?_|(refine zG rfl rfl (fun _ => ?_) fun _ => ?_)<;>refine zE tab_ok rfl rfl ?_|(refine zC rfl (fun _ => ?_) fun _ => ?_)<;>try (rename_i h; cases h; done)|refine zB ?_|refine zK ?_|refine zZ ⟨_, rfl, ?_⟩)
  refine Sq.callv rfl (hS) ?_
  repeat' (first|refine zS ?_|refine zR ?_|refine zE tab_ok rfl rfl ?_|refine zN ?_|(refine zG rfl rfl (fun _ => ?_) fun _ => ?_)<;>refine zE tab_ok rfl rfl ?_|(refine zC rfl (fun _ => ?_) fun _ => ?_)<;>try (rename_i h; cases h; done)|refine zB ?_|refine zK ?_|refine zZ ⟨_, rfl, ?_⟩)
  refine Tr.loopS (fun k : Nat => [(.s 2, u64 g), (.s 3, .ptr (.l 3) 0), (.l 3, .blk 29 [.tr (.ls (c.map svcT))]), (.s 4, .ptr (.l 4) 0), (.l 4, .blk 41 [.tr (.ls (f.map intT)), .tr (.ls (t.map intT)), .tr (.ls (l.map stpT)), .tr (.ls (e.map edT))]), (.s 7, .tr (.ls ((fleetL c f t (chs g l k)).map pT'))), (.s 8, int k)]) (fun k => l.length - k) (fun k => k ≤ l.length)
    0 (by omega) (Sub.app (l := [_, _, _, _, _, _, _]) (H := []) ⟨rfl, rfl, rfl, rfl, rfl, rfl, rfl, trivial⟩ (fun κ v h => nomatch h)) ?_
  rintro k hk
  repeat' (first|refine zS ?_|refine zR ?_|refine zE tab_ok rfl rfl ?_|refine zN ?_|(refine zG rfl rfl (fun _ => ?_) fun _ => ?_)<;>refine zE tab_ok rfl rfl ?_|(refine zC rfl (fun _ => ?_) fun _ => ?_)<;>try (rename_i h; cases h; done)|refine zB ?_|refine zK ?_|refine zZ ⟨_, rfl, ?_⟩)
  · rename_i h2
    have h2 : decide ((k : Int) < ((l.map stpT).length : Int)) = true := h2
    have hlt : k < l.length := by simp only [List.length_map, decide_eq_true_eq] at h2; omega
    obtain ⟨a, ha⟩ : ∃ a, l[k]? = some a := ⟨_, List.getElem?_eq_getElem hlt⟩
    obtain ⟨a1, a2⟩ := hin a (List.mem_of_getElem? ha)
    obtain ⟨v, s, r, hv, hs, hv0, hr, hrel⟩ := hfa a.s a1
    obtain ⟨w, s', r', hw, hs', hw0, hr', hrel'⟩ := hta a.s (by omega)
    obtain ⟨hs12, hsl⟩ := hlv s (List.mem_of_getElem? hs)
    obtain ⟨hs12', _⟩ := hlv s' (List.mem_of_getElem? hs')
    obtain ⟨l0, l1⟩ := hsl r (List.mem_of_getElem? hr)
    have hvl := (List.getElem?_eq_some_iff.1 hr).1
    have hwl := (List.getElem?_eq_some_iff.1 hr').1
    have hIn := In_ok g k (by omega)
    have hsc := chs_succ (g := g) ha
    cases hb : g.getLsbD k
    · rw [hb] at hIn hsc
      have hsc : chs g l (k + 1) = chs g l k := by rw [hsc]; simp
      refine Sq.callv rfl (hIn) ?_
      repeat' (first|refine zS ?_|refine zR ?_|refine zE tab_ok rfl rfl ?_|refine zN ?_|(refine zG rfl rfl (fun _ => ?_) fun _ => ?_)<;>refine zE tab_ok rfl rfl ?_|(refine zC rfl (fun _ => ?_) fun _ => ?_)<;>try (rename_i h; cases h; done)|refine zB ?_|refine zK ?_|refine zZ ⟨_, rfl, ?_⟩)
      exact ⟨k + 1, by omega, by omega, Sub.app (l := [_, _, _, _, _, _, _]) (H := []) ⟨rfl, rfl, rfl, rfl, rfl, by rw [hsc]; rfl, congrArg some (wrapz (by omega) (by omega) (by omega)), trivial⟩ (fun κ v h => nomatch h)⟩
    · rw [hb] at hIn hsc
      have hsc : chs g l (k + 1) = chs g l k ++ [a] := hsc
      have hcl := chs_len g l k
      obtain ⟨c2, cF⟩ := cnt_le (chs g l k) a.s
      have hlvl : lvl c a.s v = r.level := by unfold lvl; rw [hrel]
      have e1 : (fleetAt c f t (chs g l k) a.s).1 = v + (cnt2 (chs g l k) a.s : Int) * (w - v) := by unfold fleetAt; simp only; rw [vAt_of hv, vAt_of hw]
      have e2 : (fleetAt c f t (chs g l k) a.s).2 = 2 * r.level + (cntF (chs g l k) a.s : Int) := by unfold fleetAt; simp only; rw [vAt_of hv, hlvl]
      have hmul : -(63 * 12 : Int) ≤ (cnt2 (chs g l k) a.s : Int) * (w - v) ∧ (cnt2 (chs g l k) a.s : Int) * (w - v) ≤ 63 * 12 := by
        have hn0 : (0 : Int) ≤ (cnt2 (chs g l k) a.s : Int) := by omega
        have h1 : (cnt2 (chs g l k) a.s : Int) * (w - v) ≤ (cnt2 (chs g l k) a.s : Int) * 12 := Int.mul_le_mul_of_nonneg_left (by omega) hn0
        have h2 : (cnt2 (chs g l k) a.s : Int) * (-12) ≤ (cnt2 (chs g l k) a.s : Int) * (w - v) := Int.mul_le_mul_of_nonneg_left (by omega) hn0
        omega
      have hM := Moved_ok f t l e (fleetL c f t (chs g l k)) ha a2 (fleetL_at c f t _ a1) hv hw (by rw [e1]; omega) (by rw [e2]; omega) (by omega) (by omega) (by rw [fleetL_len]; omega) (by omega)
      rw [moved_fleet c f t _ a a1, ← hsc] at hM
      refine Sq.callv rfl (hIn) ?_
      repeat' (first|refine zS ?_|refine zR ?_|refine zE tab_ok rfl rfl ?_|refine zN ?_|(refine zG rfl rfl (fun _ => ?_) fun _ => ?_)<;>refine zE tab_ok rfl rfl ?_|(refine zC rfl (fun _ => ?_) fun _ => ?_)<;>try (rename_i h; cases h; done)|refine zB ?_|refine zK ?_|refine zZ ⟨_, rfl, ?_⟩)
      refine Sq.callv rfl (hM) ?_
      repeat' (first|refine zS ?_|refine zR ?_|refine zE tab_ok rfl rfl ?_|refine zN ?_|(refine zG rfl rfl (fun _ => ?_) fun _ => ?_)<;>refine zE tab_ok rfl rfl ?_|(refine zC rfl (fun _ => ?_) fun _ => ?_)<;>try (rename_i h; cases h; done)|refine zB ?_|refine zK ?_|refine zZ ⟨_, rfl, ?_⟩)
      exact ⟨k + 1, by omega, by omega, Sub.app (l := [_, _, _, _, _, _, _]) (H := []) ⟨rfl, rfl, rfl, rfl, rfl, rfl, congrArg some (wrapz (by omega) (by omega) (by omega)), trivial⟩ (fun κ v h => nomatch h)⟩
  · rename_i h2
    have h2 : decide ((k : Int) < ((l.map stpT).length : Int)) = false := h2
    have : k = l.length := by simp only [List.length_map, decide_eq_false_iff_not] at h2; omega
    subst this
    refine Tr.exit ?_
    repeat' (first|refine zS ?_|refine zR ?_|refine zE tab_ok rfl rfl ?_|refine zN ?_|(refine zG rfl rfl (fun _ => ?_) fun _ => ?_)<;>refine zE tab_ok rfl rfl ?_|(refine zC rfl (fun _ => ?_) fun _ => ?_)<;>try (rename_i h; cases h; done)|refine zB ?_|refine zK ?_|refine zZ ⟨_, rfl, ?_⟩)
    rfl
def closedB (es : List (Nat × Nat)) (g : BitVec 64) : Bool := es.all fun p => !g.getLsbD p.2 || g.getLsbD p.1
theorem refClosed_ok (n : Nat) (es : List (Nat × Nat)) (g : BitVec 64) (hn : n ≤ 64) (hl : es.length ≤ 4096) (hp : ∀ p, p ∈ es → p.1 < n ∧ p.2 < n) : Fn Tryz.prog Gw 26 [.tr (grT n es), u64 g] [] (· = bool (closedB es g)) := by
  refine Fn.of tab_ok Tryz.func26 rfl (by decide) (by simp [Tryz.f26]) rfl (fun κ v h => by cases h) Gw.below ?_
  repeat' (first|refine zS ?_|refine zR ?_|refine zE tab_ok rfl rfl ?_|refine zN ?_|(refine zG rfl rfl (fun _ => ?_) fun _ => ?_)<;>refine zE tab_ok rfl rfl ?_|(refine zC rfl (fun _ => ?_) fun _ => ?_)<;>try (rename_i h; cases h; done)|refine zB ?_|refine zK ?_|refine zZ ⟨_, rfl, ?_⟩)
  refine Tr.loopS (fun k : Nat => [(.s 1, u64 g), (.s 2, .ptr (.l 2) 0), (.l 2, .blk 69 [int n, .tr (.ls (es.map edT))]), (.s 5, int k)]) (fun k => es.length - k) (fun k => k ≤ es.length ∧ (es.take k).all (fun p => !g.getLsbD p.2 || g.getLsbD p.1) = true)
    0 ⟨by omega, rfl⟩ (Sub.app (l := [_, _, _, _]) (H := []) ⟨rfl, rfl, rfl, rfl, trivial⟩ (fun κ v h => nomatch h)) ?_
  rintro k ⟨hk, hall⟩
  repeat' (first|refine zS ?_|refine zR ?_|refine zE tab_ok rfl rfl ?_|refine zN ?_|(refine zG rfl rfl (fun _ => ?_) fun _ => ?_)<;>refine zE tab_ok rfl rfl ?_|(refine zC rfl (fun _ => ?_) fun _ => ?_)<;>try (rename_i h; cases h; done)|refine zB ?_|refine zK ?_|refine zZ ⟨_, rfl, ?_⟩)
  · rename_i h2
    have h2 : decide ((k : Int) < ((es.map edT).length : Int)) = true := h2
    have hlt : k < es.length := by simp only [List.length_map, decide_eq_true_eq] at h2; omega
    obtain ⟨⟨u, v⟩, hpk⟩ : ∃ p, es[k]? = some p := ⟨_, List.getElem?_eq_getElem hlt⟩
    have hpe : (es.map edT)[((k : Nat) : Int).toNat]? = some (edT (u, v)) := by simp [hpk]
    obtain ⟨p1, p2⟩ := hp _ (List.mem_of_getElem? hpk)
    have p1 : u < n := p1
    have p2 : v < n := p2
    have hI1 := In_ok g u (by omega)
    have hI2 := In_ok g v (by omega)
    have htk : (es.take (k + 1)).all (fun p => !g.getLsbD p.2 || g.getLsbD p.1) = ((es.take k).all (fun p => !g.getLsbD p.2 || g.getLsbD p.1) && (!g.getLsbD v || g.getLsbD u)) := by
      rw [List.take_add_one, hpk, List.all_append]; simp
    have bad : (!g.getLsbD v || g.getLsbD u) = false → closedB es g = false := fun h => by
      unfold closedB
      rw [← Bool.not_eq_true, List.all_eq_true]
      intro hh
      have := hh _ (List.mem_of_getElem? hpk)
      rw [h] at this; cases this
    rw [hall, Bool.true_and] at htk
    generalize g.getLsbD v = bv at *
    generalize g.getLsbD u = bu at *
    refine zI (x := edT (u, v)) tab_ok rfl (by omega) (hpe) rfl ?_
    refine Sq.indexAE tab_ok rfl (by omega) (by omega) ?_
    refine zE tab_ok rfl rfl ?_
    refine Sq.callv rfl (hI2) ?_
    cases bv
    · repeat' (first|refine zS ?_|refine zR ?_|refine zE tab_ok rfl rfl ?_|refine zN ?_|(refine zG rfl rfl (fun _ => ?_) fun _ => ?_)<;>refine zE tab_ok rfl rfl ?_|(refine zC rfl (fun _ => ?_) fun _ => ?_)<;>try (rename_i h; cases h; done)|refine zB ?_|refine zK ?_|refine zZ ⟨_, rfl, ?_⟩)
      exact ⟨k + 1, ⟨by omega, htk⟩, by omega, Sub.app (l := [_, _, _, _]) (H := []) ⟨rfl, rfl, rfl, congrArg some (wrapz (by omega) (by omega) (by omega)), trivial⟩ (fun κ v h => nomatch h)⟩
    · repeat' (first|refine zS ?_|refine zR ?_|refine zE tab_ok rfl rfl ?_|refine zN ?_|(refine zG rfl rfl (fun _ => ?_) fun _ => ?_)<;>refine zE tab_ok rfl rfl ?_|(refine zC rfl (fun _ => ?_) fun _ => ?_)<;>try (rename_i h; cases h; done)|refine zB ?_|refine zK ?_|refine zZ ⟨_, rfl, ?_⟩)
      refine zI (x := edT (u, v)) tab_ok rfl (by omega) (hpe) rfl ?_
      refine Sq.indexAE tab_ok rfl (by omega) (by omega) ?_
      refine zE tab_ok rfl rfl ?_
      refine Sq.callv rfl (hI1) ?_
      cases bu
      · rw [bad rfl]
        repeat' (first|refine zS ?_|refine zR ?_|refine zE tab_ok rfl rfl ?_|refine zN ?_|(refine zG rfl rfl (fun _ => ?_) fun _ => ?_)<;>refine zE tab_ok rfl rfl ?_|(refine zC rfl (fun _ => ?_) fun _ => ?_)<;>try (rename_i h; cases h; done)|refine zB ?_|refine zK ?_|refine zZ ⟨_, rfl, ?_⟩)
        rfl
      · repeat' (first|refine zS ?_|refine zR ?_|refine zE tab_ok rfl rfl ?_|refine zN ?_|(refine zG rfl rfl (fun _ => ?_) fun _ => ?_)<;>refine zE tab_ok rfl rfl ?_|(refine zC rfl (fun _ => ?_) fun _ => ?_)<;>try (rename_i h; cases h; done)|refine zB ?_|refine zK ?_|refine zZ ⟨_, rfl, ?_⟩)
        exact ⟨k + 1, ⟨by omega, htk⟩, by omega, Sub.app (l := [_, _, _, _]) (H := []) ⟨rfl, rfl, rfl, congrArg some (wrapz (by omega) (by omega) (by omega)), trivial⟩ (fun κ v h => nomatch h)⟩
  · rename_i h2
    have h2 : decide ((k : Int) < ((es.map edT).length : Int)) = false := h2
    have : k = es.length := by simp only [List.length_map, decide_eq_false_iff_not] at h2; omega
    subst this
    rw [List.take_of_length_le (Nat.le_refl _)] at hall
    refine Tr.exit ?_
    repeat' (first|refine zS ?_|refine zR ?_|refine zE tab_ok rfl rfl ?_|refine zN ?_|(refine zG rfl rfl (fun _ => ?_) fun _ => ?_)<;>refine zE tab_ok rfl rfl ?_|(refine zC rfl (fun _ => ?_) fun _ => ?_)<;>try (rename_i h; cases h; done)|refine zB ?_|refine zK ?_|refine zZ ⟨_, rfl, ?_⟩)
    show bool true = bool (closedB es g)
    unfold closedB; rw [hall]
end Go.Lg.Tryz

set_option linter.unusedVariables false
set_option linter.unusedSimpArgs false
namespace Go.Lg.Tryz
open Go Go.Proofs Go.RowKit Go.Lib Go.Lg.Sem
def toPl (p : Int × Int) : Pl := ⟨0, 0, p.1, p.2⟩
theorem toPl_r (L : List (Int × Int)) : (L.map toPl).map rPl = L.map pT' := by rw [List.map_map]; rfl
theorem cls_good {c : Ctl} {f t : List Int} {ch : List Stp} (he : Ends0 c f t) (hlv : LvOk c) (hc : Cls c f t ch) : goodB c ((fleetL c f t ch).map toPl) = true := by
  have hl := (rightV_at he.rf).1
  unfold goodB
  rw [List.length_map, fleetL_len, decide_eq_true hl, Bool.true_and, List.all_eq_true]
  intro i hi
  have hi := List.mem_range.1 hi
  have hat : ∀ j, j < f.length → ((fleetL c f t ch).map toPl)[j]? = some (toPl (fleetAt c f t ch j)) := fun j hj => by rw [List.getElem?_map, fleetL_at c f t ch hj]; rfl
  unfold goodAt
  rw [hat i hi]
  simp only [Bool.and_eq_true, List.all_eq_true]
  refine ⟨cls_stands he hlv hc hi, fun j hj => ?_⟩
  have hj := List.mem_range.1 hj
  rw [hat j (by omega)]
  exact cls_fits he hlv hc hi (by omega) (by omega)
theorem chs_mem {g : BitVec 64} {l : List Stp} {n : Nat} {a : Stp} : a ∈ chs g l n ↔ ∃ j, j < n ∧ g.getLsbD j = true ∧ l[j]? = some a := by
  unfold chs
  rw [List.mem_filterMap]
  constructor
  · rintro ⟨j, hj, h⟩
    cases hb : g.getLsbD j
    · rw [hb] at h; cases h
    · rw [hb] at h; exact ⟨j, List.mem_range.1 hj, hb, h⟩
  · rintro ⟨j, hj, hb, h⟩
    exact ⟨j, List.mem_range.2 hj, by rw [hb]; exact h⟩
theorem chs_nodup {g : BitVec 64} {l : List Stp} (hl : l.Nodup) : ∀ n, (chs g l n).Nodup := by
  intro n
  induction n with
  | zero => exact List.nodup_nil
  | succ n ih =>
    cases ha : l[n]? with
    | none =>
      have : chs g l (n + 1) = chs g l n := by
        unfold chs
        rw [List.range_succ, List.filterMap_append]
        simp [ha]
      rw [this]; exact ih
    | some a =>
      rw [chs_succ ha]
      split
      · rw [List.nodup_append]
        refine ⟨ih, by simp, fun b hb d hd => ?_⟩
        rw [List.mem_singleton] at hd
        subst hd
        rintro rfl
        obtain ⟨j, hj, _, hja⟩ := chs_mem.1 hb
        obtain ⟨h1, h2⟩ := List.getElem?_eq_some_iff.1 hja
        obtain ⟨h3, h4⟩ := List.getElem?_eq_some_iff.1 ha
        have := (List.getElem_inj hl).1 (h2.trans h4.symm)
        omega
      · rw [List.append_nil]; exact ih
theorem closed_way {es : List (Nat × Nat)} {g : BitVec 64} (h : closedB es g = true) {i k : Nat} (hw : EdgeWay es i k) : g.getLsbD k = true → g.getLsbD i = true := by
  unfold closedB at h
  rw [List.all_eq_true] at h
  have one : ∀ a b, (a, b) ∈ es → g.getLsbD b = true → g.getLsbD a = true := fun a b he hb => by
    have := h _ he
    rw [hb] at this; simpa using this
  induction hw with
  | one e => exact one _ _ e
  | snoc _ e ih => exact fun hb => ih (one _ _ e hb)
theorem chs_cls {c : Ctl} {f t : List Int} {e : List (Nat × Nat)} {g : BitVec 64} (hr : RchP c f t (stepsV c f t) e) (hc : closedB e g = true) : Cls c f t (chs g (stepsV c f t) (stepsV c f t).length) where
  nodup := chs_nodup (stepsUp_nodup c f t _) _
  sub a ha := by
    obtain ⟨j, _, _, h⟩ := chs_mem.1 ha
    exact List.mem_of_getElem? h
  clo a b ha hab hb := by
    obtain ⟨k, hk, hbk, hb'⟩ := chs_mem.1 hb
    obtain ⟨i, hi⟩ := List.mem_iff_getElem?.1 ha
    exact chs_mem.2 ⟨i, (List.getElem?_eq_some_iff.1 hi).1, closed_way hc (hr i k a b hi hb' hab) hbk, hi⟩
theorem steps_adj (c : Ctl) (f t : List Int) : ∀ (n k : Nat) (a b : Stp), (stepsUp c f t n)[k]? = some a → (stepsUp c f t n)[k + 1]? = some b → a.s = b.s → b.k = a.k + 1 := by
  intro n
  induction n with
  | zero => intro k a b h; simp [stepsUp] at h
  | succ n ih =>
    intro k a b ha hb hs
    rw [stepsUp_succ] at ha hb
    rcases Nat.lt_or_ge (k + 1) (stepsUp c f t n).length with h | h
    · rw [List.getElem?_append_left (by omega)] at ha hb
      exact ih k a b ha hb hs
    · rw [List.getElem?_append_right h] at hb
      have hbn := (stepsAt_mem (List.mem_of_getElem? hb)).1
      rcases Nat.lt_or_ge k (stepsUp c f t n).length with h2 | h2
      · rw [List.getElem?_append_left h2] at ha
        have := (stepsUp_mem.1 (List.mem_of_getElem? ha)).1
        omega
      · rw [List.getElem?_append_right h2] at ha
        rw [show k + 1 - (stepsUp c f t n).length = (k - (stepsUp c f t n).length) + 1 by omega] at hb
        generalize k - (stepsUp c f t n).length = j at *
        unfold stepsAt at ha hb
        split at ha
        · cases ha
        · rename_i h3
          rw [if_neg h3] at hb
          split at ha
          · rename_i h4
            rw [if_pos h4] at hb
            cases hb
          · rename_i h4
            rw [if_neg h4] at hb
            match j with
            | 0 => simp at ha hb; subst ha; subst hb; rfl
            | 1 => simp at ha hb; subst ha; subst hb; rfl
            | j + 2 => simp at hb
theorem refGRight_ok (n : Nat) (es : List (Nat × Nat)) (hn : n ≤ 64) (hl : es.length ≤ 4096) (hp : ∀ p, p ∈ es → p.1 < n ∧ p.2 < n) : Fn Tryz.prog Gw 57 [.tr (grT n es)] [] (· = bool true) := by
  refine Fn.of tab_ok Tryz.func57 rfl (by decide) (by simp [Tryz.f57]) rfl (fun κ v h => by cases h) Gw.below ?_
  repeat' (first|refine zS ?_|refine zR ?_|refine zE tab_ok rfl rfl ?_|refine zN ?_|(refine zG rfl rfl (fun _ => ?_) fun _ => ?_)<;>refine zE tab_ok rfl rfl ?_|(refine zC rfl (fun _ => ?_) fun _ => ?_)<;>try (rename_i h; cases h; done)|refine zB ?_|refine zK ?_|refine zZ ⟨_, rfl, ?_⟩)
  · exfalso; simp only [decide_eq_true_eq, decide_eq_false_iff_not, List.length_map] at *; omega
  · exfalso; simp only [decide_eq_true_eq, decide_eq_false_iff_not, List.length_map] at *; omega
  refine Tr.loopS (fun k : Nat => [(.s 1, .ptr (.l 1) 0), (.l 1, .blk 69 [int n, .tr (.ls (es.map edT))]), (.s 3, int k)]) (fun k => es.length - k)
    (fun k => k ≤ es.length) 0 (by omega) (Sub.app (l := [_, _, _]) (H := []) ⟨rfl, rfl, rfl, trivial⟩ (fun κ v h => nomatch h)) ?_
  rintro k hk
  repeat' (first|refine zS ?_|refine zR ?_|refine zE tab_ok rfl rfl ?_|refine zN ?_|(refine zG rfl rfl (fun _ => ?_) fun _ => ?_)<;>refine zE tab_ok rfl rfl ?_|(refine zC rfl (fun _ => ?_) fun _ => ?_)<;>try (rename_i h; cases h; done)|refine zB ?_|refine zK ?_|refine zZ ⟨_, rfl, ?_⟩)
  · rename_i h2
    have h2 : decide ((k : Int) < ((es.map edT).length : Int)) = true := h2
    have hlt : k < es.length := by simp only [List.length_map, decide_eq_true_eq] at h2; omega
    obtain ⟨⟨u, v⟩, hpk⟩ : ∃ p, es[k]? = some p := ⟨_, List.getElem?_eq_getElem hlt⟩
    have hpe : (es.map edT)[((k : Nat) : Int).toNat]? = some (edT (u, v)) := by simp [hpk]
    obtain ⟨p1, p2⟩ := hp _ (List.mem_of_getElem? hpk)
    have p1 : u < n := p1
    have p2 : v < n := p2
    refine zI (x := edT (u, v)) tab_ok rfl (by omega) (hpe) rfl ?_
    refine Sq.indexAE tab_ok rfl (by omega) (by omega) ?_
    repeat' (first|refine zS ?_|refine zR ?_|refine zE tab_ok rfl rfl ?_|refine zN ?_|(refine zG rfl rfl (fun _ => ?_) fun _ => ?_)<;>refine zE tab_ok rfl rfl ?_|(refine zC rfl (fun _ => ?_) fun _ => ?_)<;>try (rename_i h; cases h; done)|refine zB ?_|refine zK ?_|refine zZ ⟨_, rfl, ?_⟩)
    refine zI (x := edT (u, v)) tab_ok rfl (by omega) (hpe) rfl ?_
    refine Sq.indexAE tab_ok rfl (by omega) (by omega) ?_
    repeat' (first|refine zS ?_|refine zR ?_|refine zE tab_ok rfl rfl ?_|refine zN ?_|(refine zG rfl rfl (fun _ => ?_) fun _ => ?_)<;>refine zE tab_ok rfl rfl ?_|(refine zC rfl (fun _ => ?_) fun _ => ?_)<;>try (rename_i h; cases h; done)|refine zB ?_|refine zK ?_|refine zZ ⟨_, rfl, ?_⟩)
    · exfalso; rename_i h4 _; have h4 := of_decide_eq_true h4; omega
    · exfalso; rename_i h4; have h4 := of_decide_eq_true h4; omega
    exact ⟨k + 1, by omega, by omega, Sub.app (l := [_, _, _]) (H := []) ⟨rfl, rfl, congrArg some (wrapz (by omega) (by omega) (by omega)), trivial⟩ (fun κ v h => nomatch h)⟩
  · refine Tr.exit ?_
    repeat' (first|refine zS ?_|refine zR ?_|refine zE tab_ok rfl rfl ?_|refine zN ?_|(refine zG rfl rfl (fun _ => ?_) fun _ => ?_)<;>refine zE tab_ok rfl rfl ?_|(refine zC rfl (fun _ => ?_) fun _ => ?_)<;>try (rename_i h; cases h; done)|refine zB ?_|refine zK ?_|refine zZ ⟨_, rfl, ?_⟩)
    rfl
end Go.Lg.Tryz

set_option linter.unusedVariables false
set_option linter.unusedSimpArgs false
namespace Go.Lg.Tryz
open Go Go.Proofs Go.RowKit Go.Lib Go.Lg.Sem
theorem ofNat_toNat {m : Nat} (h : m < 18446744073709551616) : ((BitVec.ofNat 64 m).toNat : Int) = (m : Int) := by
  rw [BitVec.toNat_ofNat, Nat.mod_eq_of_lt (by omega)]
open Classical in
noncomputable def waysL (n : Nat) (es : List (Nat × Nat)) (a : Nat) : List Bool := (List.range n).map fun y => decide (EdgeWay es a y)
theorem ways_at {n : Nat} {es : List (Nat × Nat)} {a y : Nat} (hy : y < n) (h : EdgeWay es a y) : (waysL n es a)[y]? = some true := by
  unfold waysL; rw [List.getElem?_map, List.getElem?_range hy]; simp [h]
theorem fn_mono {P : Program} {G : World → Prop} {f : FuncId} {args : List AV} {H : Store} {R R' : AV → Prop} (h : Fn P G f args H R) (hr : ∀ x, R x → R' x) : Fn P G f args H R' :=
  ⟨h.1, fun M Ow w cargs hg hp => (h.2 M Ow w cargs hg hp).mono fun e w' ⟨cv, he, hpost⟩ => ⟨cv, he, by
    obtain ⟨h1, h2⟩ := hpost
    refine ⟨h1, ?_⟩
    obtain ⟨a, b, hh⟩ := h2
    first
      | exact ⟨a, b, hr _ hh.1, hh.2⟩
      | (obtain ⟨c, hh⟩ := hh; exact ⟨a, b, c, hr _ hh.1, hh.2⟩)
      | (obtain ⟨c, d, hh⟩ := hh; exact ⟨a, b, c, d, hr _ hh.1, hh.2⟩)⟩⟩
theorem From_ways (n : Nat) (es : List (Nat × Nat)) (a : Nat) (ha : a < n) (hn : n ≤ 64) (hl : es.length ≤ 4096) (hp : ∀ p, p ∈ es → p.1 < n ∧ p.2 < n) :
    Fn Tryz.prog Gw 58 [.tr (grT n es), int a] [] (· = .tr (.ls ((waysL n es a).map boolT))) := by
  refine fn_mono (From_ok n es a ha hn hl hp) ?_
  rintro x ⟨o, rfl, hol, ho⟩
  have : o = waysL n es a := by
    apply List.ext_getElem?
    intro y
    by_cases hy : y < n
    · obtain ⟨b, hb⟩ : ∃ b, o[y]? = some b := ⟨_, List.getElem?_eq_getElem (by omega)⟩
      rw [hb]
      unfold waysL
      rw [List.getElem?_map, List.getElem?_range hy]
      have h := ho y
      rw [hb] at h
      cases b
      · have : ¬ EdgeWay es a y := fun hw => by have := h.2 hw; cases this
        simp [this]
      · have : EdgeWay es a y := h.1 rfl
        simp [this]
    · rw [List.getElem?_eq_none (by omega), List.getElem?_eq_none (by unfold waysL; simp; omega)]
  rw [this]
set_option maxRecDepth 8192 in
theorem refPCheck_ok {c : Ctl} (hok : Ctl.ok c) (hc : c.length ≤ 12) (hlv : LvOk c) {f t : List Int} (he : endsV c f t = 0) (e : List (Nat × Nat)) (hel : e.length ≤ 1000) (hl20 : (stepsV c f t).length ≤ 20)
    (hp : ∀ p, p ∈ e → p.1 < (stepsV c f t).length ∧ p.2 < (stepsV c f t).length) (hcyc : false = true ↔ CycP (stepsV c f t).length e) (hr : RchP c f t (stepsV c f t) e) :
    Fn Tryz.prog Gw 22 [.tr (ctlT c), .tr (plnT ⟨f, t, stepsV c f t, e⟩)] [] (· = int 0) := by
  have E := ends0 he
  have hE := refEnds_ok hok (by omega) hlv f t
  rw [he] at hE
  have hfl := (rightV_at E.rf).1
  have hS := refSteps_ok hlv E.rf E.rt (by omega) E.rise
  obtain ⟨_, hin⟩ := steps_facts (c := c) (t := t) (f := f) (by omega)
  have hadj := steps_adj c f t f.length
  have hGr := refPGraph_ok f t (stepsV c f t) e
  have hRt := refGRight_ok _ e (by omega) (by omega) hp
  have hCi := Circle_ok _ e (by omega) (by omega) hp false hcyc
  have hF := fun a (ha : a < (stepsV c f t).length) => From_ways _ e a ha (by omega) (by omega) hp
  have hCl := fun g => refClosed_ok _ e g (by omega) (by omega) hp
  have hFl := fun g => refFleet_ok (by omega) hlv E.rf E.rt (stepsV c f t) e (by omega) hin g
  have hGd : ∀ g, closedB e g = true → Fn Tryz.prog Gw 28 [.tr (ctlT c), .tr (.ls ((fleetL c f t (chs g (stepsV c f t) (stepsV c f t).length)).map pT'))] [] (· = bool true) := fun g hg => by
    have := refGood_ok hok hlv (by omega) ((fleetL c f t (chs g (stepsV c f t) (stepsV c f t).length)).map toPl)
    rw [toPl_r, cls_good E hlv (chs_cls hr hg)] at this
    exact this
  have hway : ∀ k a b, (stepsV c f t)[k]? = some a → (stepsV c f t)[k + 1]? = some b → a.s = b.s → EdgeWay e k (k + 1) := fun k a b ha hb hs => hr k (k + 1) a b ha hb (by unfold aheadS; rw [if_pos hs, beq_iff_eq]; exact hadj k a b ha hb hs)
  clear hadj hr hcyc hp
  generalize stepsV c f t = l at *
  have hpow : 2 ^ l.length ≤ 2 ^ 20 := Nat.pow_le_pow_right (by omega) hl20
  refine Fn.of tab_ok Tryz.func22 rfl (by decide) (by simp [Tryz.f22]) rfl (fun κ v h => by cases h) Gw.below ?_
  repeat' (first|refine zS ?_|refine zR ?_|refine zE tab_ok rfl rfl ?_|refine zN ?_|(refine zG rfl rfl (fun _ => ?_) fun _ => ?_)<;>refine zE tab_ok rfl rfl ?_|(refine zC rfl (fun _ => ?_) fun _ => ?_)<;>try (rename_i h; cases h; done)|refine zB ?_|refine zK ?_|refine zZ ⟨_, rfl, ?_⟩)
  refine Sq.callv rfl (hE) ?_
  repeat' (first|refine zS ?_|refine zR ?_|refine zE tab_ok rfl rfl ?_|refine zN ?_|(refine zG rfl rfl (fun _ => ?_) fun _ => ?_)<;>refine zE tab_ok rfl rfl ?_|(refine zC rfl (fun _ => ?_) fun _ => ?_)<;>try (rename_i h; cases h; done)|refine zB ?_|refine zK ?_|refine zZ ⟨_, rfl, ?_⟩)
  refine Sq.callv rfl (hS) ?_
  repeat' (first|refine zS ?_|refine zR ?_|refine zE tab_ok rfl rfl ?_|refine zN ?_|(refine zG rfl rfl (fun _ => ?_) fun _ => ?_)<;>refine zE tab_ok rfl rfl ?_|(refine zC rfl (fun _ => ?_) fun _ => ?_)<;>try (rename_i h; cases h; done)|refine zB ?_|refine zK ?_|refine zZ ⟨_, rfl, ?_⟩)
  · rename_i h; exfalso
    have h : (((l.map stpT).length : Int) != ((l.map stpT).length : Int)) = true := h
    simp at h
  refine Tr.loopS (fun k : Nat => [(.s 2, .ptr (.l 2) 0), (.l 2, .blk 29 [.tr (.ls (c.map svcT))]), (.s 3, .ptr (.l 3) 0), (.l 3, .blk 41 [.tr (.ls (f.map intT)), .tr (.ls (t.map intT)), .tr (.ls (l.map stpT)), .tr (.ls (e.map edT))]), (.s 6, .tr (.ls (l.map stpT))), (.s 7, int k)]) (fun k => l.length - k) (fun k => k ≤ l.length)
    0 (by omega) (Sub.app (l := [_, _, _, _, _, _]) (H := []) ⟨rfl, rfl, rfl, rfl, rfl, rfl, trivial⟩ (fun κ v h => nomatch h)) ?_
  rintro k hk
  repeat' (first|refine zS ?_|refine zR ?_|refine zE tab_ok rfl rfl ?_|refine zN ?_|(refine zG rfl rfl (fun _ => ?_) fun _ => ?_)<;>refine zE tab_ok rfl rfl ?_|(refine zC rfl (fun _ => ?_) fun _ => ?_)<;>try (rename_i h; cases h; done)|refine zB ?_|refine zK ?_|refine zZ ⟨_, rfl, ?_⟩)
  · rename_i h2
    have h2 : decide ((k : Int) < ((l.map stpT).length : Int)) = true := h2
    have hlt : k < l.length := by simp only [List.length_map, decide_eq_true_eq] at h2; omega
    obtain ⟨a, ha⟩ : ∃ a, l[k]? = some a := ⟨_, List.getElem?_eq_getElem hlt⟩
    have hae : (l.map stpT)[((k : Nat) : Int).toNat]? = some (stpT a) := by simp [ha]
    refine Tr.drawn ( zD tab_ok rfl rfl <| zD tab_ok rfl rfl <| zO rfl (fun q K hK => zI (x := stpT a) tab_ok rfl (by omega) (hae) rfl (zN hK)) <| zD tab_ok rfl rfl <| zD tab_ok rfl rfl <| zD tab_ok rfl rfl <| zD tab_ok rfl rfl <| zO rfl (fun q K hK => zI (x := stpT a) tab_ok rfl (by omega) (hae) rfl (zN hK)) <| zD tab_ok rfl rfl <| DSq.eqag rfl (fun _ => rfl) (by kernel_rfl) (fun w => eqA_rstp 9998 w _ _ _ _) <| DSq.nil _) mix_ok rfl ?_
    rw [stp_eq, decide_eq_true rfl]
    repeat' (first|refine zS ?_|refine zR ?_|refine zE tab_ok rfl rfl ?_|refine zN ?_|(refine zG rfl rfl (fun _ => ?_) fun _ => ?_)<;>refine zE tab_ok rfl rfl ?_|(refine zC rfl (fun _ => ?_) fun _ => ?_)<;>try (rename_i h; cases h; done)|refine zB ?_|refine zK ?_|refine zZ ⟨_, rfl, ?_⟩)
    exact ⟨k + 1, by omega, by omega, Sub.app (l := [_, _, _, _, _, _]) (H := []) ⟨rfl, rfl, rfl, rfl, rfl, congrArg some (wrapz (by omega) (by omega) (by omega)), trivial⟩ (fun κ v h => nomatch h)⟩
  refine Tr.exit ?_
  repeat' (first|refine zS ?_|refine zR ?_|refine zE tab_ok rfl rfl ?_|refine zN ?_|(refine zG rfl rfl (fun _ => ?_) fun _ => ?_)<;>refine zE tab_ok rfl rfl ?_|(refine zC rfl (fun _ => ?_) fun _ => ?_)<;>try (rename_i h; cases h; done)|refine zB ?_|refine zK ?_|refine zZ ⟨_, rfl, ?_⟩)
  refine Sq.callv rfl (hGr) ?_
  repeat' (first|refine zS ?_|refine zR ?_|refine zE tab_ok rfl rfl ?_|refine zN ?_|(refine zG rfl rfl (fun _ => ?_) fun _ => ?_)<;>refine zE tab_ok rfl rfl ?_|(refine zC rfl (fun _ => ?_) fun _ => ?_)<;>try (rename_i h; cases h; done)|refine zB ?_|refine zK ?_|refine zZ ⟨_, rfl, ?_⟩)
  refine Sq.callv rfl (hRt) ?_
  repeat' (first|refine zS ?_|refine zR ?_|refine zE tab_ok rfl rfl ?_|refine zN ?_|(refine zG rfl rfl (fun _ => ?_) fun _ => ?_)<;>refine zE tab_ok rfl rfl ?_|(refine zC rfl (fun _ => ?_) fun _ => ?_)<;>try (rename_i h; cases h; done)|refine zB ?_|refine zK ?_|refine zZ ⟨_, rfl, ?_⟩)
  refine Sq.callv rfl (hCi) ?_
  repeat' (first|refine zS ?_|refine zR ?_|refine zE tab_ok rfl rfl ?_|refine zN ?_|(refine zG rfl rfl (fun _ => ?_) fun _ => ?_)<;>refine zE tab_ok rfl rfl ?_|(refine zC rfl (fun _ => ?_) fun _ => ?_)<;>try (rename_i h; cases h; done)|refine zB ?_|refine zK ?_|refine zZ ⟨_, rfl, ?_⟩)
  refine Tr.loopS (fun k : Nat => [(.s 2, .ptr (.l 2) 0), (.l 2, .blk 29 [.tr (.ls (c.map svcT))]), (.s 3, .ptr (.l 3) 0), (.l 3, .blk 41 [.tr (.ls (f.map intT)), .tr (.ls (t.map intT)), .tr (.ls (l.map stpT)), .tr (.ls (e.map edT))]), (.s 6, .tr (.ls (l.map stpT))), (.s 8, .ptr (.l 8) 0), (.l 8, .blk 69 [int l.length, .tr (.ls (e.map edT))]), (.s 9, int k)]) (fun k => l.length - k) (fun k => k ≤ l.length)
    0 (by omega) (Sub.app (l := [_, _, _, _, _, _, _, _]) (H := []) ⟨rfl, rfl, rfl, rfl, rfl, rfl, rfl, rfl, trivial⟩ (fun κ v h => nomatch h)) ?_
  rintro k hk
  have hw1 : IntKind.i64.wrap ((k : Int) + 1) = ((k + 1 : Nat) : Int) := by rw [Go.IntWalk.i64_in _ ⟨by omega, by omega⟩]; rfl
  repeat' (first|refine zS ?_|refine zR ?_|refine zE tab_ok rfl rfl ?_|refine zN ?_|(refine zG rfl rfl (fun _ => ?_) fun _ => ?_)<;>refine zE tab_ok rfl rfl ?_|(refine zC rfl (fun _ => ?_) fun _ => ?_)<;>try (rename_i h; cases h; done)|refine zB ?_|refine zK ?_|refine zZ ⟨_, rfl, ?_⟩)
  · rename_i h2
    have h2 : decide (IntKind.i64.wrap ((k : Int) + 1) < ((l.map stpT).length : Int)) = true := h2
    rw [hw1] at h2
    have hlt : k + 1 < l.length := by simp only [List.length_map, decide_eq_true_eq] at h2; omega
    obtain ⟨a, ha⟩ : ∃ a, l[k]? = some a := ⟨_, List.getElem?_eq_getElem (by omega)⟩
    obtain ⟨b, hb⟩ : ∃ a, l[k + 1]? = some a := ⟨_, List.getElem?_eq_getElem hlt⟩
    have hae : (l.map stpT)[((k : Nat) : Int).toNat]? = some (stpT a) := by simp [ha]
    have hbe : (l.map stpT)[(((k + 1 : Nat) : Nat) : Int).toNat]? = some (stpT b) := by rw [Int.toNat_natCast]; exact (by rw [List.getElem?_map, hb]; rfl)
    by_cases hs : a.s = b.s
    · have hse : ((a.s : Int) == (b.s : Int)) = true := by rw [beq_iff_eq, hs]
      have hW := hway k a b ha hb hs
      have hFk := hF k (by omega)
      have hwe : ((waysL l.length e k).map boolT)[(((k + 1 : Nat) : Nat) : Int).toNat]? = some (boolT true) := by rw [Int.toNat_natCast, List.getElem?_map, ways_at hlt hW]; rfl
      generalize waysL l.length e k = W at *
      refine Tr.drawn ( zD tab_ok rfl rfl <| zD tab_ok rfl rfl <| zO rfl (fun q K hK => zI (x := stpT a) tab_ok rfl (by omega) (hae) rfl (zN hK)) <| zD tab_ok rfl rfl <| zD tab_ok rfl rfl <| zD tab_ok rfl rfl <| zD tab_ok rfl rfl <| DSq.evr tab_ok rfl (congrArg int hw1) <| zO rfl (fun q K hK => zI (x := stpT b) tab_ok rfl (by omega) (hbe) rfl (zN hK)) <| zD tab_ok rfl rfl <| zD tab_ok rfl rfl <| DSq.evr tab_ok rfl (congrArg bool hse) <| zD tab_ok rfl rfl <| zD tab_ok rfl rfl <| zD tab_ok rfl rfl <| DSq.call rfl (fun _ => rfl) (hFk) <| zD tab_ok rfl rfl <| DSq.evr tab_ok rfl (congrArg int hw1) <| zO rfl (fun q K hK => zI (x := boolT true) tab_ok rfl (by omega) (hwe) rfl (zN hK)) <| zD tab_ok rfl rfl <| zD tab_ok rfl rfl <| zD tab_ok rfl rfl <| DSq.nil _) mix_ok rfl ?_
      repeat' (first|refine zS ?_|refine zR ?_|refine zE tab_ok rfl rfl ?_|refine zN ?_|(refine zG rfl rfl (fun _ => ?_) fun _ => ?_)<;>refine zE tab_ok rfl rfl ?_|(refine zC rfl (fun _ => ?_) fun _ => ?_)<;>try (rename_i h; cases h; done)|refine zB ?_|refine zK ?_|refine zZ ⟨_, rfl, ?_⟩)
      exact ⟨k + 1, by omega, by omega, Sub.app (l := [_, _, _, _, _, _, _, _]) (H := []) ⟨rfl, rfl, rfl, rfl, rfl, rfl, rfl, congrArg some (wrapz (by omega) (by omega) (by omega)), trivial⟩ (fun κ v h => nomatch h)⟩
    · have hse : ((a.s : Int) == (b.s : Int)) = false := by rw [beq_eq_false_iff_ne]; omega
      refine Tr.drawn ( zD tab_ok rfl rfl <| zD tab_ok rfl rfl <| zO rfl (fun q K hK => zI (x := stpT a) tab_ok rfl (by omega) (hae) rfl (zN hK)) <| zD tab_ok rfl rfl <| zD tab_ok rfl rfl <| zD tab_ok rfl rfl <| zD tab_ok rfl rfl <| DSq.evr tab_ok rfl (congrArg int hw1) <| zO rfl (fun q K hK => zI (x := stpT b) tab_ok rfl (by omega) (hbe) rfl (zN hK)) <| zD tab_ok rfl rfl <| zD tab_ok rfl rfl <| DSq.evr tab_ok rfl (congrArg bool hse) <| zD tab_ok rfl rfl <| zD tab_ok rfl rfl <| zD tab_ok rfl rfl <| zD tab_ok rfl rfl <| zD tab_ok rfl rfl <| zD tab_ok rfl rfl <| zD tab_ok rfl rfl <| zD tab_ok rfl rfl <| zD tab_ok rfl rfl <| zD tab_ok rfl rfl <| DSq.nil _) mix_ok rfl ?_
      repeat' (first|refine zS ?_|refine zR ?_|refine zE tab_ok rfl rfl ?_|refine zN ?_|(refine zG rfl rfl (fun _ => ?_) fun _ => ?_)<;>refine zE tab_ok rfl rfl ?_|(refine zC rfl (fun _ => ?_) fun _ => ?_)<;>try (rename_i h; cases h; done)|refine zB ?_|refine zK ?_|refine zZ ⟨_, rfl, ?_⟩)
      exact ⟨k + 1, by omega, by omega, Sub.app (l := [_, _, _, _, _, _, _, _]) (H := []) ⟨rfl, rfl, rfl, rfl, rfl, rfl, rfl, congrArg some (wrapz (by omega) (by omega) (by omega)), trivial⟩ (fun κ v h => nomatch h)⟩
  refine Tr.exit ?_
  clear hF hway hw1
  refine zS ?_
  refine zR ?_
  refine zE tab_ok rfl rfl ?_
  refine zE tab_ok rfl rfl ?_
  have hml : (l.map stpT).length = l.length := List.length_map ..
  rw [hml]
  refine Sq.shift rfl 1#64 l.length rfl rfl (by omega) ?_
  have hall : (if true = true then 1#64 <<< l.length else 1#64 >>> l.length) = BitVec.ofNat 64 (2 ^ l.length) := by
    rw [if_pos rfl]
    apply BitVec.eq_of_toNat_eq
    rw [BitVec.toNat_shiftLeft, BitVec.toNat_ofNat, BitVec.toNat_ofNat, Nat.shiftLeft_eq]
    simp
  rw [hall]
  refine zE tab_ok rfl rfl ?_
  refine zN ?_
  repeat' (first|refine zS ?_|refine zR ?_|refine zE tab_ok rfl rfl ?_|refine zN ?_|(refine zG rfl rfl (fun _ => ?_) fun _ => ?_)<;>refine zE tab_ok rfl rfl ?_|(refine zC rfl (fun _ => ?_) fun _ => ?_)<;>try (rename_i h; cases h; done)|refine zB ?_|refine zK ?_|refine zZ ⟨_, rfl, ?_⟩)
  refine Tr.loopS (fun m : Nat => [(.s 2, .ptr (.l 2) 0), (.l 2, .blk 29 [.tr (.ls (c.map svcT))]), (.s 3, .ptr (.l 3) 0), (.l 3, .blk 41 [.tr (.ls (f.map intT)), .tr (.ls (t.map intT)), .tr (.ls (l.map stpT)), .tr (.ls (e.map edT))]), (.s 8, .ptr (.l 8) 0), (.l 8, .blk 69 [int l.length, .tr (.ls (e.map edT))]), (.s 10, u64 (BitVec.ofNat 64 (2 ^ l.length))), (.s 11, u64 (BitVec.ofNat 64 m))]) (fun m => 2 ^ l.length - m) (fun m => m ≤ 2 ^ l.length)
    0 (Nat.zero_le _) (Sub.app (l := [_, _, _, _, _, _, _, _]) (H := []) ⟨rfl, rfl, rfl, rfl, rfl, rfl, rfl, rfl, trivial⟩ (fun κ v h => nomatch h)) ?_
  rintro m hm
  have hp20 : (2 : Nat) ^ 20 = 1048576 := rfl
  rw [hp20] at hpow
  have t1 := ofNat_toNat (m := m) (by omega)
  have t2 := ofNat_toNat (m := 2 ^ l.length) (by omega)
  have t0 : m < 18446744073709551615 := by have : (2 : Nat) ^ 20 = 1048576 := rfl; omega
  generalize hgm : 2 ^ l.length = M at *
  repeat' (first|refine zS ?_|refine zR ?_|refine zE tab_ok rfl rfl ?_|refine zN ?_|(refine zG rfl rfl (fun _ => ?_) fun _ => ?_)<;>refine zE tab_ok rfl rfl ?_|(refine zC rfl (fun _ => ?_) fun _ => ?_)<;>try (rename_i h; cases h; done)|refine zB ?_|refine zK ?_|refine zZ ⟨_, rfl, ?_⟩)
  · rename_i h2
    have h2 : decide (((BitVec.ofNat 64 m).toNat : Int) < ((BitVec.ofNat 64 M).toNat : Int)) = true := h2
    rw [t1, t2, decide_eq_true_eq] at h2
    have hC := hCl (BitVec.ofNat 64 m)
    have hFm := hFl (BitVec.ofNat 64 m)
    have hGm := hGd (BitVec.ofNat 64 m)
    have hwr : IntKind.u64.wrap (((BitVec.ofNat 64 m).toNat : Int) + 1) = ((BitVec.ofNat 64 (m + 1)).toNat : Int) := by
      rw [t1, ofNat_toNat (by omega)]
      have := wrap_bv (BitVec.ofNat 64 (m + 1))
      rw [ofNat_toNat (by omega)] at this
      rw [← this]; rfl
    have hnx : (AV.tr (.sc (.int .u64 (IntKind.u64.wrap (((BitVec.ofNat 64 m).toNat : Int) + 1))))) = u64 (BitVec.ofNat 64 (m + 1)) := by rw [hwr]
    generalize BitVec.ofNat 64 m = g at *
    cases hcb : closedB e g
    · rw [hcb] at hC
      refine Tr.drawn ( zD tab_ok rfl rfl <| zD tab_ok rfl rfl <| DSq.call rfl (fun _ => rfl) (hC) <| zD tab_ok rfl rfl <| zD tab_ok rfl rfl <| zD tab_ok rfl rfl <| zD tab_ok rfl rfl <| zD tab_ok rfl rfl <| zD tab_ok rfl rfl <| zD tab_ok rfl rfl <| zD tab_ok rfl rfl <| zD tab_ok rfl rfl <| DSq.nil _) mix_ok rfl ?_
      repeat' (first|refine zS ?_|refine zR ?_|refine zE tab_ok rfl rfl ?_|refine zN ?_|(refine zG rfl rfl (fun _ => ?_) fun _ => ?_)<;>refine zE tab_ok rfl rfl ?_|(refine zC rfl (fun _ => ?_) fun _ => ?_)<;>try (rename_i h; cases h; done)|refine zB ?_|refine zK ?_|refine zZ ⟨_, rfl, ?_⟩)
      exact ⟨m + 1, by omega, by omega, Sub.app (l := [_, _, _, _, _, _, _, _]) (H := []) ⟨rfl, rfl, rfl, rfl, rfl, rfl, rfl, congrArg some hnx, trivial⟩ (fun κ v h => nomatch h)⟩
    · rw [hcb] at hC
      have hGm := hGm hcb
      generalize (fleetL c f t (chs g l l.length)).map pT' = FL at *
      refine Tr.drawn ( zD tab_ok rfl rfl <| zD tab_ok rfl rfl <| DSq.call rfl (fun _ => rfl) (hC) <| zD tab_ok rfl rfl <| zD tab_ok rfl rfl <| zD tab_ok rfl rfl <| zD tab_ok rfl rfl <| zD tab_ok rfl rfl <| DSq.call rfl (fun _ => rfl) (hFm) <| DSq.call rfl (fun _ => rfl) (hGm) <| zD tab_ok rfl rfl <| zD tab_ok rfl rfl <| DSq.nil _) mix_ok rfl ?_
      repeat' (first|refine zS ?_|refine zR ?_|refine zE tab_ok rfl rfl ?_|refine zN ?_|(refine zG rfl rfl (fun _ => ?_) fun _ => ?_)<;>refine zE tab_ok rfl rfl ?_|(refine zC rfl (fun _ => ?_) fun _ => ?_)<;>try (rename_i h; cases h; done)|refine zB ?_|refine zK ?_|refine zZ ⟨_, rfl, ?_⟩)
      exact ⟨m + 1, by omega, by omega, Sub.app (l := [_, _, _, _, _, _, _, _]) (H := []) ⟨rfl, rfl, rfl, rfl, rfl, rfl, rfl, congrArg some hnx, trivial⟩ (fun κ v h => nomatch h)⟩
  · refine Tr.exit ?_
    repeat' (first|refine zS ?_|refine zR ?_|refine zE tab_ok rfl rfl ?_|refine zN ?_|(refine zG rfl rfl (fun _ => ?_) fun _ => ?_)<;>refine zE tab_ok rfl rfl ?_|(refine zC rfl (fun _ => ?_) fun _ => ?_)<;>try (rename_i h; cases h; done)|refine zB ?_|refine zK ?_|refine zZ ⟨_, rfl, ?_⟩)
    rfl
end Go.Lg.Tryz

set_option linter.unusedVariables false
set_option linter.unusedSimpArgs false
namespace Go.Lg
open Go Go.RowKit
section
variable {P : Program} {G : Env} {n : Nat} {tab : Tab} {m : Store}
theorem Rel.swapD {Γ : Ctx} {M : Nat → Nat → Prop} {Ow : Loc → Nat → Option Nat} {a : Act} {w : World} (hr : Rel P Γ M Ow n m a w) {s d : Nat} (hd : d < n) {y : AV} (hy : lk m (.s s) = some y) {x : AV} (hx : x.isOwn = true) {cv : Value} (hv : SRel P w M Ow x cv (Ow (.s s) 0)) :
    RelX P Γ n ((.s d, x) :: (.s s, y.deg) :: m) (a.put (some d) cv) w := by
  have hdg : ∀ o, SRel P w M Ow y.deg (a.tmps.getD s undef) o := fun o => srel_of (deg_vrel (hr.slot s _ hy)) o
  have h2 := (hr.label (t := s) (v' := y.deg) (hdg _)).setOw (l := .s s) (i := 0) rfl none (fun b hb => by cases hb) (fun t v e hv => by
    obtain rfl : s = t := by injection e
    rw [lk_self] at hv; obtain rfl := Option.some.inj hv; exact hdg _) (fun _ _ _ _ _ _ _ e => by cases e)
  exact ⟨_, _, h2.putv hd (o := Ow (.s s) 0) (own_any hx hv) (own_refs hx) (fun b hb => hr.forget_free hb)⟩
def evExtR (n : Nat) (ops : List Oper) (o : Oper) (m : Store) : Option (Nat × TypeId × Bool × List T × List T × Nat) := match o.op, o.dst, gOk m ops o.guard with
  | .extract (.tmp s) 0, some d, true => match Nat.blt d n, lk m (.s s) with
    | true, some (.rtup ty z xs rest) => some (s, ty, z, xs, rest, d)
    | _, _ => none
  | _, _, _ => none
theorem Sq.extractR {ops l : List Oper} {o : Oper} {s d : Nat} {ty : TypeId} {z : Bool} {xs rest : List T} {K : Store → Prop} (h : evExtR n ops o m = some (s, ty, z, xs, rest, d)) (k : Sq P G n ops l ((.s d, .raw ty z xs) :: (.s s, .tup (.unk :: rest.map .tr)) :: m) K) : Sq P G n ops (o :: l) m K := by
  obtain ⟨dst, op, type, pos, after, guard⟩ := o
  unfold evExtR at h
  simp only at h
  split at h
  · rename_i s0 d' hgd
    split at h
    · rename_i ty0 z0 xs0 rest0 hlt hx
      simp only [Option.some.injEq, Prod.mk.injEq] at h
      obtain ⟨rfl, rfl, rfl, rfl, rfl, rfl⟩ := h
      refine Sq.do hgd (fun Γ M Ow a w hr => ?_) k
      have hv : SRel P w M Ow (.rtup ty0 z0 xs0 rest0) (a.tmps.getD s0 undef) (Ow (.s s0) 0) := hr.slot s0 _ hx
      obtain ⟨cv, cs, e1, hraw, h2, h3⟩ := hv
      have ex : a.eval (.tmp s0) = .tuple (#[cv] ++ cs) := e1
      refine ⟨cv, w, ?_, hr.swapD (Nat.lt_of_succ_le (Nat.le_of_ble_eq_true hlt)) hx (x := .raw _ _ _) rfl hraw⟩
      have e0 : (#[cv] ++ cs)[0]? = some cv := by rw [Array.getElem?_append_left (show 0 < 1 from Nat.one_pos)]; rfl
      simp [execOp, ex, Instr.extract, e0]
    · cases h
  · cases h
def evLoadT (tab : Tab) (n : Nat) (ops : List Oper) (o : Oper) (m : Store) : Option (Loc × TypeId × List AV × Nat × Nat) := match o.op, o.dst, gOk m ops o.guard with
  | .load t (.tmp p), some d, true => match Nat.blt d n, tlk tab t, lk m (.s p) with
    | true, some ⟨_, _, kind, _⟩, some (.ptr κ off) => match kind.agg, κ.isL, lk m κ with
      | false, true, some (.blk ty cells) => some (κ, ty, cells, off, d)
      | _, _, _ => none
    | _, _, _ => none
  | _, _, _ => none
theorem Sq.loadT {ops l : List Oper} {o : Oper} {κ : Loc} {ty : TypeId} {cells : List AV} {off d : Nat} {v : AV} {K : Store → Prop} (hT : TabOk P tab) (h : evLoadT tab n ops o m = some (κ, ty, cells, off, d)) (hv : cells[off]? = some v) (hown : v.isOwn = true)
    (k : Sq P G n ops l ((.s d, v) :: (κ, .blk ty (cells.set off v.deg)) :: m) K) : Sq P G n ops (o :: l) m K := by
  obtain ⟨dst, op, type, pos, after, guard⟩ := o
  unfold evLoadT at h
  simp only at h
  split at h
  · rename_i t p d' hgd
    split at h
    · rename_i kind _ κ off' hlt ht hp
      split at h
      · rename_i ty' cells' hagg hL hκ
        simp only [Option.some.injEq, Prod.mk.injEq] at h
        obtain ⟨rfl, rfl, rfl, rfl, rfl⟩ := h
        refine Sq.do hgd (fun Γ M Ow a w hr => ?_) k
        obtain ⟨b, hk, hb, e1⟩ := opK_ptr (x := .tmp p) (a := a) (o := Ow (.s p) 0) (v := .unk) (Γ := Γ) (rs := []) (hr.slot p _ hp)
        obtain ⟨ty0, cells0, b0, cs, e0, ho, hh, hs', hn, h1, hcs⟩ := hr.blk κ _ hk hκ
        obtain ⟨rfl, rfl⟩ : ty' = ty0 ∧ cells' = cells0 := by injection e0 with e1 e2; exact ⟨e1, e2⟩
        obtain rfl : b = b0 := by rw [hb] at ho; exact Option.some.inj ho
        have hlt2 : off' < cs.size := by
          rw [hs']
          rcases Nat.lt_or_ge off' cells'.length with h | h
          · exact h
          · rw [List.getElem?_eq_none h] at hv; cases hv
        have hcell : w.cell? ⟨b, off', none⟩ = some cs[off'] := by simp [World.cell?, hh, hlt2]
        have hrun := run_loadVar_one hT ht hagg hcell
        exact ⟨cs[off'], w, by simp only [execOp]; rw [e1, Sem.run_bind, hrun]; rfl, hr.takecell hL hκ hown hv (Nat.lt_of_succ_le (Nat.le_of_ble_eq_true hlt)) hb hcell⟩
      · cases h
    · cases h
  · cases h
def oneOwn : AV → Bool
  | .own _ _ => true
  | .raw _ _ _ => true
  | _ => false
theorem isOwn_one {w : World} {M : Nat → Nat → Prop} {Ow : Loc → Nat → Option Nat} {x : AV} {v : Value} {o : Option Nat} (h : SRel P w M Ow x v o) (hx : oneOwn x = true) : v.oneCell' = true := by
  cases x with
  | own ty xs =>
    obtain ⟨_, _, _, ⟨_, _, h⟩ | ⟨_, _, _, _, _, h, _⟩⟩ := h
    · rw [h]; rfl
    · rw [h]; rfl
  | raw ty z xs =>
    obtain ⟨_, _, _, ⟨_, _, h⟩ | ⟨_, _, _, _, _, h, _⟩⟩ := h
    · rw [h]; rfl
    · rw [h]; rfl
  | _ => cases hx
def evStoreT (tab : Tab) (n : Nat) (ops : List Oper) (o : Oper) (m : Store) : Option (Loc × TypeId × List AV × Nat × Nat × AV) := match o.op, o.dst, gOk m ops o.guard with
  | .store t (.tmp p) (.tmp s), none, true => match tlk tab t, lk m (.s p), lk m (.s s) with
    | some ⟨1, _, _, _⟩, some (.ptr κ off), some v => match κ.isL, lk m κ, oneOwn v with
      | true, some (.blk ty cells), true => some (κ, ty, cells, off, s, v)
      | _, _, _ => none
    | _, _, _ => none
  | _, _, _ => none
theorem Sq.storeT {ops l : List Oper} {o : Oper} {κ : Loc} {ty : TypeId} {cells : List AV} {off s : Nat} {v : AV} {K : Store → Prop} (hT : TabOk P tab) (h : evStoreT tab n ops o m = some (κ, ty, cells, off, s, v)) (hlt : off < cells.length)
    (k : Sq P G n ops l ((κ, .blk ty (cells.set off v)) :: (.s s, v.deg) :: m) K) : Sq P G n ops (o :: l) m K := by
  obtain ⟨dst, op, type, pos, after, guard⟩ := o
  unfold evStoreT at h
  simp only at h
  split at h
  · rename_i t p s0 hgd
    split at h
    · rename_i by' kind zs κ0 off0 v0 ht hp hs
      split at h
      · rename_i ty0 cells0 hL hκ hone
        simp only [Option.some.injEq, Prod.mk.injEq] at h
        obtain ⟨rfl, rfl, rfl, rfl, rfl, rfl⟩ := h
        refine Sq.step (fr := []) ?_ (fun κ hk => nomatch hk) k
        rintro Γ a w hpn ⟨M, Ow, hr⟩
        rw [if_pos (wanted_of hgd hr)]
        refine OAct.of_skip (m := m) (m' := (κ0, .blk ty0 (cells0.set off0 v0)) :: (.s s0, v0.deg) :: m) (fun Γ M Ow a w hr => ?_) Γ a w hpn ⟨M, Ow, hr⟩
        obtain ⟨b, hk, hb, e1⟩ := opK_ptr (x := .tmp p) (a := a) (o := Ow (.s p) 0) (v := .unk) (Γ := Γ) (rs := []) (hr.slot p _ hp)
        obtain ⟨ty1, cells1, b0, cs, e0, ho, hh, hs', hn, h1, hcs⟩ := hr.blk κ0 _ hk hκ
        obtain ⟨rfl, rfl⟩ : ty0 = ty1 ∧ cells0 = cells1 := by injection e0 with e1 e2; exact ⟨e1, e2⟩
        obtain rfl : b = b0 := by rw [hb] at ho; exact Option.some.inj ho
        have hv := hr.slot s0 _ hs
        have ho1 := isOwn_one hv hone
        have hown : v0.isOwn = true := by
          cases v0 <;> first | rfl | cases hone
        have hcl : (a.tmps.getD s0 undef).cells = #[a.tmps.getD s0 undef] := one_cells ho1
        have hst := run_store_at (off := off0) hT ht hh (v := a.tmps.getD s0 undef) (by rw [hcl]; rfl) (by show off0 + 1 ≤ cs.size; omega) (by
          intro i u hu
          rw [hcl] at hu
          cases i with
          | zero => simp at hu; subst hu; simpa using ho1
          | succ i => simp at hu)
        have hx : a.eval (.tmp s0) = a.tmps.getD s0 undef := rfl
        refine ⟨_, by simp only [execOp]; rw [e1, hx, Sem.run_bind, hst]; rfl, ?_⟩
        have := hr.givecell hL hκ hown hs (off := off0) hb hh hs' (by omega) ho1
        have e2 : cells0.take off0 ++ [v0] ++ cells0.drop (off0 + 1) = cells0.set off0 v0 := by
          rw [List.set_eq_take_append_cons_drop, if_pos hlt]; simp
        rw [e2] at this
        simp only [hcl]
        exact this
      · cases h
    · cases h
  · cases h
def cbinB (op : BinOp) (a b c d : Nat) : Option (Nat × Nat) := match op with
  | .add => match floatBits .add .f64 a c, floatBits .add .f64 b d with
    | some x, some y => some (x, y)
    | _, _ => none
  | .sub => match floatBits .sub .f64 a c, floatBits .sub .f64 b d with
    | some x, some y => some (x, y)
    | _, _ => none
  | _ => none
theorem run_carith (w : World) (op : BinOp) (k : FloatKind) (x y r : Nat) (h : floatBits op k x y = some r) : (Op.Complex.arith op k x y).run P w = .ok r w := by
  unfold floatBits at h
  cases op <;> simp only at h <;> first | (cases h; done) | skip
  all_goals simp [Op.Complex.arith, Op.floatArith, h]
theorem Sq.cbin {ops l : List Oper} {o : Oper} {op : BinOp} {x y : Nat × Nat} {d : Nat} {r : Nat × Nat} {K : Store → Prop} (h : evCcmp n ops o m = some (op, x, y, d)) (hb : cbinB op x.1 x.2 y.1 y.2 = some r) (k : Sq P G n ops l ((.s d, .tr (.sc (.complex .f64 r.1 r.2))) :: m) K) : Sq P G n ops (o :: l) m K := by
  obtain ⟨dst, op', type, pos, after, guard⟩ := o
  unfold evCcmp at h
  simp only at h
  split at h
  · rename_i op0 ty ox oy ty' d' hgd
    split at h
    · rename_i a b a' b' hlt hx hy
      simp only [Option.some.injEq, Prod.mk.injEq] at h
      obtain ⟨rfl, rfl, rfl, rfl⟩ := h
      refine Sq.do hgd (fun Γ M Ow ac w hrr => ?_) k
      obtain ⟨q1, hq1⟩ := opV_ok hx hrr
      obtain ⟨q2, hq2⟩ := opV_ok hy hrr
      refine ⟨_, w, ?_, M, Ow, hrr.put (Nat.lt_of_succ_le (Nat.le_of_ble_eq_true hlt)) (.tr _ _ (.sc _ rfl))⟩
      unfold cbinB at hb
      split at hb
      · split at hb
        · rename_i r1 r2 e1 e2
          obtain rfl := Option.some.inj hb
          simp [execOp, (sc_eval (Γ := Γ) hq1).1, (sc_eval (Γ := Γ) hq2).1, eqGuard, binOp, Op.complexOp, run_carith w _ _ _ _ _ e1, run_carith w _ _ _ _ _ e2]
        · cases hb
      · split at hb
        · rename_i r1 r2 e1 e2
          obtain rfl := Option.some.inj hb
          simp [execOp, (sc_eval (Γ := Γ) hq1).1, (sc_eval (Γ := Γ) hq2).1, eqGuard, binOp, Op.complexOp, run_carith w _ _ _ _ _ e1, run_carith w _ _ _ _ _ e2]
        · cases hb
      · cases hb
    · cases h
  · cases h
def evNilR (tab : Tab) (n : Nat) (ops : List Oper) (o : Oper) (m : Store) : Option (TypeId × Nat) := match o.op, o.dst, gOk m ops o.guard with
  | .assign (.const (.slice none 0 0)), some d, true => match Nat.blt d n, tlk tab o.type with
    | true, some ⟨_, _, .slice e, _⟩ => match tlk tab e with
      | some _ => some (e, d)
      | none => none
    | _, _ => none
  | _, _, _ => none
theorem Sq.nilR {ops l : List Oper} {o : Oper} {e : TypeId} {d : Nat} {K : Store → Prop} (hT : TabOk P tab) (h : evNilR tab n ops o m = some (e, d)) (k : Sq P G n ops l ((.s d, .raw e true []) :: m) K) : Sq P G n ops (o :: l) m K := by
  obtain ⟨dst, op, type, pos, after, guard⟩ := o
  unfold evNilR at h
  simp only at h
  split at h
  · rename_i d' hgd
    split at h
    · rename_i e' _ hlt ht
      split at h
      · rename_i de he
        simp only [Option.some.injEq, Prod.mk.injEq] at h
        obtain ⟨rfl, rfl⟩ := h
        refine Sq.do hgd (fun Γ M Ow a w hr => ?_) k
        obtain ⟨ie, hie, _⟩ := hT.info he
        refine ⟨.slice none 0 0, w, rfl, M, _, hr.putv (Nat.lt_of_succ_le (Nat.le_of_ble_eq_true hlt)) (x := .raw e' true []) (o := none) ⟨ie, hie, (fun x hx => nomatch hx), .inl ⟨rfl, none, rfl⟩⟩ (own_refs rfl) (fun b hb => nomatch hb)⟩
      · cases h
    · cases h
  · cases h
end
end Go.Lg

set_option linter.unusedVariables false
set_option linter.unusedSimpArgs false
namespace Go.Lg.Sem
open Go Go.Lg
def subF (a b : Int) : Bool := floatBits .sub .f64 (floatOfInt .f64 a) (floatOfInt .f64 b) == some (floatOfInt .f64 (a - b))
def addF (a b : Int) : Bool := floatBits .add .f64 (floatOfInt .f64 a) (floatOfInt .f64 b) == some (floatOfInt .f64 (a + b))
set_option maxRecDepth 100000 in
theorem subF_all : (List.range 12).all (fun a => (List.range 12).all fun b => subF a b) = true := by kernel_rfl
set_option maxRecDepth 100000 in
theorem addF_all : (List.range 12).all (fun a => (List.range 23).all fun b => addF a ((b : Int) - 11)) = true := by kernel_rfl
def addR (lo : Nat) : Bool := (List.range 126).all fun k => addF ((lo + k : Nat) : Int) 1 && addF ((lo + k : Nat) : Int) 0
set_option maxRecDepth 100000 in
theorem addR0 : addR 0 = true := by kernel_rfl
set_option maxRecDepth 100000 in
theorem addR1 : addR 126 = true := by kernel_rfl
set_option maxRecDepth 100000 in
theorem addR2 : addR 252 = true := by kernel_rfl
set_option maxRecDepth 100000 in
theorem addR3 : addR 378 = true := by kernel_rfl
set_option maxRecDepth 100000 in
theorem addR4 : addR 504 = true := by kernel_rfl
set_option maxRecDepth 100000 in
theorem addR5 : addR 630 = true := by kernel_rfl
set_option maxRecDepth 100000 in
theorem addR6 : addR 756 = true := by kernel_rfl
set_option maxRecDepth 100000 in
theorem addR7 : addR 882 = true := by kernel_rfl
set_option maxRecDepth 100000 in
theorem addR8 : addR 1008 = true := by kernel_rfl
set_option maxRecDepth 100000 in
theorem addR9 : addR 1134 = true := by kernel_rfl
set_option maxRecDepth 100000 in
theorem addR10 : addR 1260 = true := by kernel_rfl
set_option maxRecDepth 100000 in
theorem addR11 : addR 1386 = true := by kernel_rfl
set_option maxRecDepth 100000 in
theorem addR12 : addR 1512 = true := by kernel_rfl
set_option maxRecDepth 100000 in
theorem addR13 : addR 1638 = true := by kernel_rfl
set_option maxRecDepth 100000 in
theorem addR14 : addR 1764 = true := by kernel_rfl
set_option maxRecDepth 100000 in
theorem addR15 : addR 1890 = true := by kernel_rfl
theorem addR_all (a : Nat) (h : a < 2016) : (addF (a : Int) 1 && addF (a : Int) 0) = true := by
  have key : addR (126 * (a / 126)) = true := by
    have hq : a / 126 < 16 := by omega
    generalize a / 126 = q at hq
    match q, hq with
    | 0, _ => exact addR0
    | 1, _ => exact addR1
    | 2, _ => exact addR2
    | 3, _ => exact addR3
    | 4, _ => exact addR4
    | 5, _ => exact addR5
    | 6, _ => exact addR6
    | 7, _ => exact addR7
    | 8, _ => exact addR8
    | 9, _ => exact addR9
    | 10, _ => exact addR10
    | 11, _ => exact addR11
    | 12, _ => exact addR12
    | 13, _ => exact addR13
    | 14, _ => exact addR14
    | 15, _ => exact addR15
    | q + 16, h => omega
  have := List.all_eq_true.1 key (a % 126) (List.mem_range.2 (Nat.mod_lt _ (by omega)))
  rw [show 126 * (a / 126) + a % 126 = a by omega] at this
  exact this
theorem subF_of {a b : Int} (h1 : 0 ≤ a) (h2 : a ≤ 11) (h3 : 0 ≤ b) (h4 : b ≤ 11) : floatBits .sub .f64 (floatOfInt .f64 a) (floatOfInt .f64 b) = some (floatOfInt .f64 (a - b)) := by
  have h := List.all_eq_true.1 (List.all_eq_true.1 subF_all a.toNat (List.mem_range.2 (by omega))) b.toNat (List.mem_range.2 (by omega))
  rw [show ((a.toNat : Nat) : Int) = a by omega, show ((b.toNat : Nat) : Int) = b by omega] at h
  exact eq_of_beq h
theorem addF_of {a b : Int} (h1 : 0 ≤ a) (h2 : a ≤ 11) (h3 : -11 ≤ b) (h4 : b ≤ 11) : floatBits .add .f64 (floatOfInt .f64 a) (floatOfInt .f64 b) = some (floatOfInt .f64 (a + b)) := by
  have h := List.all_eq_true.1 (List.all_eq_true.1 addF_all a.toNat (List.mem_range.2 (by omega))) (b + 11).toNat (List.mem_range.2 (by omega))
  rw [show ((a.toNat : Nat) : Int) = a by omega, show (((b + 11).toNat : Nat) : Int) - 11 = b by omega] at h
  exact eq_of_beq h
theorem addF_up {a b : Int} (h1 : 0 ≤ a) (h2 : a ≤ 2003) (hb : b = 0 ∨ b = 1) : floatBits .add .f64 (floatOfInt .f64 a) (floatOfInt .f64 b) = some (floatOfInt .f64 (a + b)) := by
  have h := addR_all a.toNat (by omega)
  rw [show ((a.toNat : Nat) : Int) = a by omega, Bool.and_eq_true] at h
  rcases hb with rfl | rfl
  · exact eq_of_beq h.2
  · exact eq_of_beq h.1
end Go.Lg.Sem

set_option linter.unusedVariables false
set_option linter.unusedSimpArgs false
namespace Go.Lg.Tryz
open Go Go.Proofs Go.RowKit Go.Lib Go.Lg.Sem
theorem Step_ok {k : Nat} {v w : Int} (hk : k = 1 ∨ k = 2 ∨ k = 3) (b1 : 0 ≤ v ∧ v ≤ 11) (b2 : 0 ≤ w ∧ w ≤ 11) : Fn Tryz.prog Gw 71 [int k, int v, int w] [] (· = .tup [.tr (if k = 2 then placeT (w - v) 0 else placeT 0 1), int 0]) := by
  have hA := at_ok v 0 (by omega) (by omega) (by omega) (by omega)
  have hB := at_ok w 0 (by omega) (by omega) (by omega) (by omega)
  have h1 : placeT 0 1 = .sc (.complex .f64 0 4607182418800017408) := by
    have e0 : floatOfInt .f64 0 = 0 := by kernel_rfl
    have e1 : floatOfInt .f64 1 = 4607182418800017408 := by kernel_rfl
    unfold placeT; rw [e0, e1]
  rcases hk with rfl | rfl | rfl
  · rw [if_neg (by omega), h1]
    refine Fn.of tab_ok Tryz.func71 rfl (by decide) (by simp [Tryz.f71]) rfl (fun κ v h => by cases h) Gw.below ?_
    repeat' (first|refine zS ?_|refine zR ?_|refine zE tab_ok rfl rfl ?_|refine zN ?_|(refine zG rfl rfl (fun _ => ?_) fun _ => ?_)<;>refine zE tab_ok rfl rfl ?_|(refine zC rfl (fun _ => ?_) fun _ => ?_)<;>try (rename_i h; cases h; done)|refine zB ?_|refine zK ?_|refine zZ ⟨_, rfl, ?_⟩)
    rfl
  · rw [if_pos rfl]
    have hs1 := subF_of b2.1 b2.2 b1.1 b1.2
    have hs2 := subF_of (a := 0) (b := 0) (by omega) (by omega) (by omega) (by omega)
    generalize hx : floatOfInt .f64 v = x at *
    generalize hy : floatOfInt .f64 w = y at *
    generalize hz : floatOfInt .f64 0 = z at *
    rw [show (0 : Int) - 0 = 0 by omega, hz] at hs2
    generalize hu : floatOfInt .f64 (w - v) = u at *
    refine Fn.of tab_ok Tryz.func71 rfl (by decide) (by simp [Tryz.f71]) rfl (fun κ v h => by cases h) Gw.below ?_
    repeat' (first|refine zS ?_|refine zR ?_|refine zE tab_ok rfl rfl ?_|refine zN ?_|(refine zG rfl rfl (fun _ => ?_) fun _ => ?_)<;>refine zE tab_ok rfl rfl ?_|(refine zC rfl (fun _ => ?_) fun _ => ?_)<;>try (rename_i h; cases h; done)|refine zB ?_|refine zK ?_|refine zZ ⟨_, rfl, ?_⟩)
    refine Sq.callv rfl (hA) ?_
    repeat' (first|refine zS ?_|refine zR ?_|refine zE tab_ok rfl rfl ?_|refine zN ?_|(refine zG rfl rfl (fun _ => ?_) fun _ => ?_)<;>refine zE tab_ok rfl rfl ?_|(refine zC rfl (fun _ => ?_) fun _ => ?_)<;>try (rename_i h; cases h; done)|refine zB ?_|refine zK ?_|refine zZ ⟨_, rfl, ?_⟩)
    refine Sq.callv rfl (hB) ?_
    repeat' (first|refine zS ?_|refine zR ?_|refine zE tab_ok rfl rfl ?_|refine zN ?_|(refine zG rfl rfl (fun _ => ?_) fun _ => ?_)<;>refine zE tab_ok rfl rfl ?_|(refine zC rfl (fun _ => ?_) fun _ => ?_)<;>try (rename_i h; cases h; done)|refine zB ?_|refine zK ?_|refine zZ ⟨_, rfl, ?_⟩)
    refine Sq.cbin (r := (u, z)) rfl (by unfold cbinB; simp only; rw [hy, hx, hz, hs1, hs2]) ?_
    repeat' (first|refine zS ?_|refine zR ?_|refine zE tab_ok rfl rfl ?_|refine zN ?_|(refine zG rfl rfl (fun _ => ?_) fun _ => ?_)<;>refine zE tab_ok rfl rfl ?_|(refine zC rfl (fun _ => ?_) fun _ => ?_)<;>try (rename_i h; cases h; done)|refine zB ?_|refine zK ?_|refine zZ ⟨_, rfl, ?_⟩)
    show AV.tup [.tr (.sc (.complex .f64 u z)), int 0] = .tup [.tr (.sc (.complex .f64 (floatOfInt .f64 (w - v)) (floatOfInt .f64 0))), int 0]
    rw [hu, hz]
  · rw [if_neg (by omega), h1]
    refine Fn.of tab_ok Tryz.func71 rfl (by decide) (by simp [Tryz.f71]) rfl (fun κ v h => by cases h) Gw.below ?_
    repeat' (first|refine zS ?_|refine zR ?_|refine zE tab_ok rfl rfl ?_|refine zN ?_|(refine zG rfl rfl (fun _ => ?_) fun _ => ?_)<;>refine zE tab_ok rfl rfl ?_|(refine zC rfl (fun _ => ?_) fun _ => ?_)<;>try (rename_i h; cases h; done)|refine zB ?_|refine zK ?_|refine zZ ⟨_, rfl, ?_⟩)
    rfl
end Go.Lg.Tryz

set_option linter.unusedVariables false
set_option linter.unusedSimpArgs false
namespace Go.Lg.Tryz
open Go Go.Proofs Go.RowKit Go.Lib Go.Lg.Sem
theorem SettledR_ok {c : Ctl} (hc : c.length ≤ 1000000) (hr : LvOk c) {vs : List Int} (hrt : rightV c vs = true) :
    Fn Tryz.prog Gw 32 [.tr (ctlT c), .tr (.ls (vs.map intT))] [] (· = .rtup 84 true ((List.range vs.length).map (placeAt c vs)) [.sc (.int .i64 0)]) := by
  obtain ⟨hl, hat⟩ := rightV_at hrt
  have hne : (((vs.map intT).length : Int) != ((c.map svcT).length : Int)) = false := by rw [List.length_map, List.length_map, hl]; simp
  refine Fn.of tab_ok Tryz.func32 rfl (by decide) (by simp [Tryz.f32]) rfl (fun κ v h => by cases h) Gw.below ?_
  refine zS ?_
  refine zR ?_
  refine zE tab_ok rfl rfl ?_
  refine zE tab_ok rfl rfl ?_
  refine zE tab_ok rfl rfl ?_
  refine zN ?_
  refine zS ?_
  refine zS ?_
  refine zR ?_
  refine zE tab_ok rfl rfl ?_
  refine zE tab_ok rfl rfl ?_
  refine zE tab_ok rfl rfl ?_
  refine zE tab_ok rfl rfl ?_
  refine zE tab_ok rfl rfl ?_
  refine zE tab_ok rfl rfl ?_
  refine zN ?_
  refine zC rfl (fun h => ?_) (fun h => ?_)
  · exfalso
    have h : (((vs.map intT).length : Int) != ((c.map svcT).length : Int)) = true := h
    rw [hne] at h; cases h
  refine zK ?_
  refine zS ?_
  refine zR ?_
  refine Sq.nilR tab_ok rfl ?_
  refine zN ?_
  repeat' (first|refine zS ?_|refine zR ?_|refine zE tab_ok rfl rfl ?_|refine zN ?_|(refine zG rfl rfl (fun _ => ?_) fun _ => ?_)<;>refine zE tab_ok rfl rfl ?_|(refine zC rfl (fun _ => ?_) fun _ => ?_)<;>try (rename_i h; cases h; done)|refine zB ?_|refine zK ?_|refine zZ ⟨_, rfl, ?_⟩)
  refine Tr.loopS (fun k : Nat => [(.s 1, .tr (.ls (vs.map intT))), (.s 2, .ptr (.l 2) 0), (.l 2, .blk 24 [.tr (.ls (c.map svcT))]), (.s 6, .raw 84 true ((List.range k).map (placeAt c vs))), (.s 17, .tr (.ls (vs.map intT))), (.s 18, int (vs.map intT).length), (.s 19, int k)]) (fun k => vs.length - k)
    (fun k => k ≤ vs.length) 0 (by omega) (Sub.app (l := [_, _, _, _, _, _, _]) (H := []) ⟨rfl, rfl, rfl, rfl, rfl, rfl, rfl, trivial⟩ (fun κ v h => nomatch h)) ?_
  rintro k hk
  repeat' (first|refine zS ?_|refine zR ?_|refine zE tab_ok rfl rfl ?_|refine zN ?_|(refine zG rfl rfl (fun _ => ?_) fun _ => ?_)<;>refine zE tab_ok rfl rfl ?_|(refine zC rfl (fun _ => ?_) fun _ => ?_)<;>try (rename_i h; cases h; done)|refine zB ?_|refine zK ?_|refine zZ ⟨_, rfl, ?_⟩)
  · rename_i h2
    have hlt : k < vs.length := by simp only [List.length_map, decide_eq_true_eq] at h2; omega
    obtain ⟨v, s, r, hv, hs, hv0, hrr, hrel⟩ := hat k hlt
    have hve : (vs.map intT)[((k : Nat) : Int).toNat]? = some (intT v) := by simp [hv]
    have hse : (c.map svcT)[((k : Nat) : Int).toNat]? = some (svcT s) := by simp [hs]
    have hre : (s.rels.map rlsT)[v.toNat]? = some (rlsT r) := by simp [hrr]
    have hvl := (List.getElem?_eq_some_iff.1 hrr).1
    obtain ⟨hs12, hsr⟩ := hr s (List.mem_of_getElem? hs)
    obtain ⟨l0, l1⟩ := hsr r (List.mem_of_getElem? hrr)
    have hpl : placeAt c vs k = placeT v (2 * r.level) := by unfold placeAt; rw [hv]; simp only; rw [hrel]
    have hA := at_ok v (2 * r.level) (by omega) (by omega) (by omega) (by omega)
    refine zI (x := intT v) tab_ok rfl (by omega) (hve) rfl ?_
    repeat' (first|refine zS ?_|refine zR ?_|refine zE tab_ok rfl rfl ?_|refine zN ?_|(refine zG rfl rfl (fun _ => ?_) fun _ => ?_)<;>refine zE tab_ok rfl rfl ?_|(refine zC rfl (fun _ => ?_) fun _ => ?_)<;>try (rename_i h; cases h; done)|refine zB ?_|refine zK ?_|refine zZ ⟨_, rfl, ?_⟩)
    · rename_i h3 _
      exfalso
      have h3 := of_decide_eq_true h3
      omega
    refine zI (x := svcT s) tab_ok rfl (by omega) (hse) rfl ?_
    repeat' (first|refine zS ?_|refine zR ?_|refine zE tab_ok rfl rfl ?_|refine zN ?_|(refine zG rfl rfl (fun _ => ?_) fun _ => ?_)<;>refine zE tab_ok rfl rfl ?_|(refine zC rfl (fun _ => ?_) fun _ => ?_)<;>try (rename_i h; cases h; done)|refine zB ?_|refine zK ?_|refine zZ ⟨_, rfl, ?_⟩)
    · rename_i h4
      exfalso
      have h4 : decide (v ≥ ((s.rels.map rlsT).length : Int)) = true := h4
      rw [List.length_map] at h4
      have h4 := of_decide_eq_true h4
      omega
    refine zI (x := svcT s) tab_ok rfl (by omega) (hse) rfl ?_
    repeat' (first|refine zS ?_|refine zR ?_|refine zE tab_ok rfl rfl ?_|refine zN ?_|(refine zG rfl rfl (fun _ => ?_) fun _ => ?_)<;>refine zE tab_ok rfl rfl ?_|(refine zC rfl (fun _ => ?_) fun _ => ?_)<;>try (rename_i h; cases h; done)|refine zB ?_|refine zK ?_|refine zZ ⟨_, rfl, ?_⟩)
    refine zI (x := rlsT r) tab_ok rfl (by omega) (hre) rfl ?_
    repeat' (first|refine zS ?_|refine zR ?_|refine zE tab_ok rfl rfl ?_|refine zN ?_|(refine zG rfl rfl (fun _ => ?_) fun _ => ?_)<;>refine zE tab_ok rfl rfl ?_|(refine zC rfl (fun _ => ?_) fun _ => ?_)<;>try (rename_i h; cases h; done)|refine zB ?_|refine zK ?_|refine zZ ⟨_, rfl, ?_⟩)
    refine Sq.re (wrapz (z := 2 * r.level) rfl (by omega) (by omega)) ?_
    refine Sq.callv rfl (hA) ?_
    repeat' (first|refine zS ?_|refine zR ?_|refine zE tab_ok rfl rfl ?_|refine zN ?_|(refine zG rfl rfl (fun _ => ?_) fun _ => ?_)<;>refine zE tab_ok rfl rfl ?_|(refine zC rfl (fun _ => ?_) fun _ => ?_)<;>try (rename_i h; cases h; done)|refine zB ?_|refine zK ?_|refine zZ ⟨_, rfl, ?_⟩)
    refine Sq.appendR tab_ok rfl (fun y hy => by simp only [List.mem_singleton] at hy; subst hy; rfl) (by simp; omega) ?_
    repeat' (first|refine zS ?_|refine zR ?_|refine zE tab_ok rfl rfl ?_|refine zN ?_|(refine zG rfl rfl (fun _ => ?_) fun _ => ?_)<;>refine zE tab_ok rfl rfl ?_|(refine zC rfl (fun _ => ?_) fun _ => ?_)<;>try (rename_i h; cases h; done)|refine zB ?_|refine zK ?_|refine zZ ⟨_, rfl, ?_⟩)
    exact ⟨k + 1, by omega, by omega, Sub.app (l := [_, _, _, _, _, _, _]) (H := []) ⟨rfl, rfl, rfl, congrArg some (congrArg (AV.raw _ _) (by rw [List.range_succ, List.map_append, List.map_cons, List.map_nil, hpl])), rfl, rfl, congrArg some (wrapz (by omega) (by omega) (by omega)), trivial⟩ (fun κ v h => nomatch h)⟩
  · rename_i h2
    have : k = vs.length := by simp only [List.length_map, decide_eq_false_iff_not] at h2; omega
    subst this
    refine Tr.exit ?_
    refine zS ?_
    refine zR ?_
    refine Sq.take rfl ?_
    repeat' (first|refine zS ?_|refine zR ?_|refine zE tab_ok rfl rfl ?_|refine zN ?_|(refine zG rfl rfl (fun _ => ?_) fun _ => ?_)<;>refine zE tab_ok rfl rfl ?_|(refine zC rfl (fun _ => ?_) fun _ => ?_)<;>try (rename_i h; cases h; done)|refine zB ?_|refine zK ?_|refine zZ ⟨_, rfl, ?_⟩)
    rfl
end Go.Lg.Tryz

set_option linter.unusedVariables false
set_option linter.unusedSimpArgs false
namespace Go.Lg.Tryz
open Go Go.Proofs Go.RowKit Go.Lib Go.Lg.Sem
def vecT (f t : List Int) (a : Stp) : T := if a.k = 2 then placeT (vAt t a.s - vAt f a.s) 0 else placeT 0 1
theorem Vector_ok (f t : List Int) (l : List Stp) (e : List (Nat × Nat)) {k : Nat} {a : Stp} (ha : l[k]? = some a) (hl : l.length ≤ 1000000) (hak : a.k = 1 ∨ a.k = 2 ∨ a.k = 3) {v w : Int} (hv : f[a.s]? = some v) (hw : t[a.s]? = some w) (hfl : f.length ≤ 1000000) (htl : t.length ≤ 1000000)
    (b1 : 0 ≤ v ∧ v ≤ 11) (b2 : 0 ≤ w ∧ w ≤ 11) : Fn Tryz.prog Gw 34 [.tr (plnT ⟨f, t, l, e⟩), int k] [] (· = .tup [.tr (vecT f t a), int 0]) := by
  have hkl := (List.getElem?_eq_some_iff.1 ha).1
  have hae : (l.map stpT)[((k : Nat) : Int).toNat]? = some (stpT a) := by simp [ha]
  have hve : (f.map intT)[((a.s : Nat) : Int).toNat]? = some (intT v) := by simp [hv]
  have hwe : (t.map intT)[((a.s : Nat) : Int).toNat]? = some (intT w) := by simp [hw]
  have hsf := (List.getElem?_eq_some_iff.1 hv).1
  have hst := (List.getElem?_eq_some_iff.1 hw).1
  have hvec : vecT f t a = if a.k = 2 then placeT (w - v) 0 else placeT 0 1 := by unfold vecT; rw [vAt_of hv, vAt_of hw]
  rw [hvec]
  have h1 := Step_ok (k := 1) (v := 0) (w := 0) (.inl rfl) (by omega) (by omega)
  have h3 := Step_ok (k := 3) (v := 0) (w := 0) (.inr (.inr rfl)) (by omega) (by omega)
  have h2 := Step_ok (k := 2) (.inr (.inl rfl)) b1 b2
  obtain ⟨s, kk⟩ := a
  simp only at hak hsf hst
  rcases hak with rfl | rfl | rfl
  · have e1 : ¬ (1 : Nat) = 2 := by omega
    dsimp only
    rw [if_neg e1] at h1 ⊢
    generalize placeT 0 1 = X at *
    refine Fn.of tab_ok Tryz.func34 rfl (by decide) (by simp [Tryz.f34]) rfl (fun κ v h => by cases h) Gw.below ?_
    repeat' (first|refine zS ?_|refine zR ?_|refine zE tab_ok rfl rfl ?_|refine zN ?_|(refine zG rfl rfl (fun _ => ?_) fun _ => ?_)<;>refine zE tab_ok rfl rfl ?_|(refine zC rfl (fun _ => ?_) fun _ => ?_)<;>try (rename_i h; cases h; done)|refine zB ?_|refine zK ?_|refine zZ ⟨_, rfl, ?_⟩)
    · exfalso
      rename_i h
      have h : decide ((k : Int) ≥ ((l.map stpT).length : Int)) = true := h
      have h := of_decide_eq_true h
      rw [List.length_map] at h
      omega
    refine zI (x := stpT ⟨s, 1⟩) tab_ok rfl (by omega) (hae) rfl ?_
    repeat' (first|refine zS ?_|refine zR ?_|refine zE tab_ok rfl rfl ?_|refine zN ?_|(refine zG rfl rfl (fun _ => ?_) fun _ => ?_)<;>refine zE tab_ok rfl rfl ?_|(refine zC rfl (fun _ => ?_) fun _ => ?_)<;>try (rename_i h; cases h; done)|refine zB ?_|refine zK ?_|refine zZ ⟨_, rfl, ?_⟩)
    refine Sq.callv rfl (h1) ?_
    repeat' (first|refine zS ?_|refine zR ?_|refine zE tab_ok rfl rfl ?_|refine zN ?_|(refine zG rfl rfl (fun _ => ?_) fun _ => ?_)<;>refine zE tab_ok rfl rfl ?_|(refine zC rfl (fun _ => ?_) fun _ => ?_)<;>try (rename_i h; cases h; done)|refine zB ?_|refine zK ?_|refine zZ ⟨_, rfl, ?_⟩)
    rfl
  · dsimp only
    rw [if_pos rfl] at h2 ⊢
    generalize placeT (w - v) 0 = X at *
    refine Fn.of tab_ok Tryz.func34 rfl (by decide) (by simp [Tryz.f34]) rfl (fun κ v h => by cases h) Gw.below ?_
    repeat' (first|refine zS ?_|refine zR ?_|refine zE tab_ok rfl rfl ?_|refine zN ?_|(refine zG rfl rfl (fun _ => ?_) fun _ => ?_)<;>refine zE tab_ok rfl rfl ?_|(refine zC rfl (fun _ => ?_) fun _ => ?_)<;>try (rename_i h; cases h; done)|refine zB ?_|refine zK ?_|refine zZ ⟨_, rfl, ?_⟩)
    · exfalso
      rename_i h
      have h : decide ((k : Int) ≥ ((l.map stpT).length : Int)) = true := h
      have h := of_decide_eq_true h
      rw [List.length_map] at h
      omega
    refine zI (x := stpT ⟨s, 2⟩) tab_ok rfl (by omega) (hae) rfl ?_
    repeat' (first|refine zS ?_|refine zR ?_|refine zE tab_ok rfl rfl ?_|refine zN ?_|(refine zG rfl rfl (fun _ => ?_) fun _ => ?_)<;>refine zE tab_ok rfl rfl ?_|(refine zC rfl (fun _ => ?_) fun _ => ?_)<;>try (rename_i h; cases h; done)|refine zB ?_|refine zK ?_|refine zZ ⟨_, rfl, ?_⟩)
    · exfalso
      rename_i h _
      have h : decide ((s : Int) ≥ ((f.map intT).length : Int)) = true := h
      have h := of_decide_eq_true h
      rw [List.length_map] at h
      omega
    · exfalso
      rename_i h
      have h : decide ((s : Int) ≥ ((t.map intT).length : Int)) = true := h
      have h := of_decide_eq_true h
      rw [List.length_map] at h
      omega
    refine Tr.drawn ( zD tab_ok rfl rfl <| zD tab_ok rfl rfl <| zD tab_ok rfl rfl <| zD tab_ok rfl rfl <| zD tab_ok rfl rfl <| zD tab_ok rfl rfl <| zO rfl (fun q K hK => zI (x := intT v) tab_ok rfl (by omega) (hve) rfl (zN hK)) <| zD tab_ok rfl rfl <| zD tab_ok rfl rfl <| zD tab_ok rfl rfl <| zD tab_ok rfl rfl <| zD tab_ok rfl rfl <| zO rfl (fun q K hK => zI (x := intT w) tab_ok rfl (by omega) (hwe) rfl (zN hK)) <| zD tab_ok rfl rfl <| DSq.call rfl (fun _ => rfl) (h2) <| zD tab_ok rfl rfl <| zD tab_ok rfl rfl <| zD tab_ok rfl rfl <| zD tab_ok rfl rfl <| DSq.nil _) mix_ok rfl ?_
    repeat' (first|refine zS ?_|refine zR ?_|refine zE tab_ok rfl rfl ?_|refine zN ?_|(refine zG rfl rfl (fun _ => ?_) fun _ => ?_)<;>refine zE tab_ok rfl rfl ?_|(refine zC rfl (fun _ => ?_) fun _ => ?_)<;>try (rename_i h; cases h; done)|refine zB ?_|refine zK ?_|refine zZ ⟨_, rfl, ?_⟩)
    rfl
  · have e1 : ¬ (3 : Nat) = 2 := by omega
    dsimp only
    rw [if_neg e1] at h3 ⊢
    generalize placeT 0 1 = X at *
    refine Fn.of tab_ok Tryz.func34 rfl (by decide) (by simp [Tryz.f34]) rfl (fun κ v h => by cases h) Gw.below ?_
    repeat' (first|refine zS ?_|refine zR ?_|refine zE tab_ok rfl rfl ?_|refine zN ?_|(refine zG rfl rfl (fun _ => ?_) fun _ => ?_)<;>refine zE tab_ok rfl rfl ?_|(refine zC rfl (fun _ => ?_) fun _ => ?_)<;>try (rename_i h; cases h; done)|refine zB ?_|refine zK ?_|refine zZ ⟨_, rfl, ?_⟩)
    · exfalso
      rename_i h
      have h : decide ((k : Int) ≥ ((l.map stpT).length : Int)) = true := h
      have h := of_decide_eq_true h
      rw [List.length_map] at h
      omega
    refine zI (x := stpT ⟨s, 3⟩) tab_ok rfl (by omega) (hae) rfl ?_
    repeat' (first|refine zS ?_|refine zR ?_|refine zE tab_ok rfl rfl ?_|refine zN ?_|(refine zG rfl rfl (fun _ => ?_) fun _ => ?_)<;>refine zE tab_ok rfl rfl ?_|(refine zC rfl (fun _ => ?_) fun _ => ?_)<;>try (rename_i h; cases h; done)|refine zB ?_|refine zK ?_|refine zZ ⟨_, rfl, ?_⟩)
    refine Sq.callv rfl (h3) ?_
    repeat' (first|refine zS ?_|refine zR ?_|refine zE tab_ok rfl rfl ?_|refine zN ?_|(refine zG rfl rfl (fun _ => ?_) fun _ => ?_)<;>refine zE tab_ok rfl rfl ?_|(refine zC rfl (fun _ => ?_) fun _ => ?_)<;>try (rename_i h; cases h; done)|refine zB ?_|refine zK ?_|refine zZ ⟨_, rfl, ?_⟩)
    rfl
end Go.Lg.Tryz

set_option linter.unusedVariables false
set_option linter.unusedSimpArgs false
namespace Go.Lg.Tryz
open Go Go.Proofs Go.RowKit Go.Lib Go.Lg.Sem
theorem chs_f' {g : BitVec 64} {l : List Stp} {k : Nat} (h : g.getLsbD k = false) : chs g l (k + 1) = chs g l k := by
  unfold chs; rw [List.range_succ, List.filterMap_append]; simp [h]
theorem chs_ge {g : BitVec 64} {l : List Stp} {n : Nat} (hg : ∀ j, n ≤ j → g.getLsbD j = false) : ∀ d, chs g l (n + d) = chs g l n
  | 0 => rfl
  | d + 1 => by rw [show n + (d + 1) = (n + d) + 1 by omega, chs_f' (hg _ (by omega))]; exact chs_ge hg d
abbrev pcT (p : Int × Int) : T := placeT p.1 p.2
theorem fleet0c {c : Ctl} {f : List Int} (t : List Int) (hr : rightV c f = true) : (fleetL c f t []).map pcT = (pls c f).map plT := by
  apply List.ext_getElem?
  intro i
  by_cases hi : i < f.length
  · obtain ⟨v, s, r, hv, hs, hv0, hrv, hrel⟩ := (rightV_at hr).2 i hi
    have e : plAt c f i = ⟨floatOfInt .f64 v, floatOfInt .f64 (2 * r.level), v, 2 * r.level⟩ := by unfold plAt; rw [hv]; simp only; rw [hrel]
    have h1 : (pls c f)[i]? = some (plAt c f i) := by unfold pls; rw [List.getElem?_map, List.getElem?_range hi]; rfl
    rw [List.getElem?_map, List.getElem?_map, fleetL_at c f t [] hi, h1, e]
    show some (placeT (vAt f i + ((0 : Nat) : Int) * (vAt t i - vAt f i)) (2 * lvl c i (vAt f i) + ((0 : Nat) : Int))) = some (placeT v (2 * r.level))
    rw [vAt_of hv]
    have : lvl c i v = r.level := by unfold lvl; rw [hrel]
    rw [this]
    simp
  · rw [List.getElem?_eq_none (by rw [List.length_map, fleetL_len]; omega), List.getElem?_eq_none (by rw [List.length_map]; unfold pls; simp; omega)]
def svcCh (ch : List Stp) (i : Nat) : List Stp := ch.filter fun a => a.s == i
theorem svc_cnt (ch : List Stp) (i : Nat) : cnt2 (svcCh ch i) i = cnt2 ch i ∧ cntF (svcCh ch i) i = cntF ch i := by
  unfold cnt2 cntF svcCh
  rw [List.filter_filter, List.filter_filter]
  refine ⟨?_, ?_⟩
  · congr 2; funext a; cases a.s == i <;> simp
  · congr 2; funext a; cases a.s == i <;> simp
theorem svc_fleet (c : Ctl) (f t : List Int) (ch : List Stp) (i : Nat) : fleetAt c f t (svcCh ch i) i = fleetAt c f t ch i := by
  unfold fleetAt; rw [(svc_cnt ch i).1, (svc_cnt ch i).2]
theorem vec_add {c : Ctl} {f t : List Int} (hlv : LvOk c) (hf : rightV c f = true) (ht : rightV c t = true) {ch : List Stp} {a : Stp} {i : Nat} (hi : i < f.length) (hs : a.s = i) (hk : a.k = 1 ∨ a.k = 2 ∨ a.k = 3) (hnd : (ch ++ [a]).Nodup) (hkk : ∀ b, b ∈ ch ++ [a] → b.k = 1 ∨ b.k = 2 ∨ b.k = 3) :
    ∃ x y, vecT f t a = .sc (.complex .f64 x y) ∧ cbinB .add (floatOfInt .f64 (fleetAt c f t ch i).1) (floatOfInt .f64 (fleetAt c f t ch i).2) x y = some (floatOfInt .f64 (fleetAt c f t (ch ++ [a]) i).1, floatOfInt .f64 (fleetAt c f t (ch ++ [a]) i).2) := by
  obtain ⟨hfl, hfa⟩ := rightV_at hf
  obtain ⟨htl, hta⟩ := rightV_at ht
  obtain ⟨v, s, r, hv, hsv, hv0, hr, hrel⟩ := hfa i hi
  obtain ⟨w, s', r', hw, hsw, hw0, hr', hrel'⟩ := hta i (by omega)
  obtain ⟨hs12, hsl⟩ := hlv s (List.mem_of_getElem? hsv)
  obtain ⟨hs12', _⟩ := hlv s' (List.mem_of_getElem? hsw)
  obtain ⟨l0, l1⟩ := hsl r (List.mem_of_getElem? hr)
  have hvl := (List.getElem?_eq_some_iff.1 hr).1
  have hwl := (List.getElem?_eq_some_iff.1 hr').1
  have hlvl : lvl c i v = r.level := by unfold lvl; rw [hrel]
  have hnd1 : ch.Nodup := (List.nodup_append.1 hnd).1
  have c2 := cnt2_eq hnd1 i
  have c2' := cnt2_eq hnd i
  have cF := cntF_eq hnd1 (fun b hb => hkk b (List.mem_append_left _ hb)) i
  have cF' := cntF_eq hnd hkk i
  have s2 := cnt2_snoc ch a i
  have sF := cntF_snoc ch a i
  have e1 : (fleetAt c f t ch i).1 = v + (cnt2 ch i : Int) * (w - v) := by unfold fleetAt; simp only; rw [vAt_of hv, vAt_of hw]
  have e2 : (fleetAt c f t ch i).2 = 2 * r.level + (cntF ch i : Int) := by unfold fleetAt; simp only; rw [vAt_of hv, hlvl]
  have hF2 : cntF ch i ≤ 2 := by rw [cF]; split <;> split <;> omega
  rw [fleet_snoc, if_pos hs, vAt_of hv, vAt_of hw]
  unfold vecT
  by_cases h2 : a.k = 2
  · rw [if_pos h2, if_pos h2, hs, vAt_of hv, vAt_of hw]
    rw [if_pos ⟨hs, h2⟩] at s2
    have hz : cnt2 ch i = 0 := by
      have : cnt2 (ch ++ [a]) i ≤ 1 := by rw [c2']; split <;> omega
      omega
    refine ⟨_, _, rfl, ?_⟩
    have q1 : (fleetAt c f t ch i).1 = v := by rw [e1, hz]; simp
    rw [q1, e2]
    have h1 := addF_of (a := v) (b := w - v) (by omega) (by omega) (by omega) (by omega)
    have h2 := addF_up (a := 2 * r.level + (cntF ch i : Int)) (b := 0) (by omega) (by omega) (.inl rfl)
    rw [Int.add_zero] at h2
    unfold cbinB
    simp only
    rw [h1, h2]
  · rw [if_neg h2, if_neg h2]
    refine ⟨_, _, rfl, ?_⟩
    have q1 : 0 ≤ (fleetAt c f t ch i).1 ∧ (fleetAt c f t ch i).1 ≤ 11 := by
      rw [e1, c2]
      split
      · simp; omega
      · simp; omega
    rw [e2]
    have h1 := addF_of (a := (fleetAt c f t ch i).1) (b := 0) q1.1 q1.2 (by omega) (by omega)
    have h2 := addF_up (a := 2 * r.level + (cntF ch i : Int)) (b := 1) (by omega) (by omega) (.inr rfl)
    rw [Int.add_zero] at h1
    unfold cbinB
    simp only
    rw [h1, h2]
theorem fleet_rng {c : Ctl} {f t : List Int} (hlv : LvOk c) (hf : rightV c f = true) (ht : rightV c t = true) {ch : List Stp} {i : Nat} (hi : i < f.length) (hnd : ch.Nodup) (hkk : ∀ b, b ∈ ch → b.k = 1 ∨ b.k = 2 ∨ b.k = 3) :
    (0 ≤ (fleetAt c f t ch i).1 ∧ (fleetAt c f t ch i).1 ≤ 11) ∧ 0 ≤ (fleetAt c f t ch i).2 ∧ (fleetAt c f t ch i).2 ≤ 2002 := by
  obtain ⟨hfl, hfa⟩ := rightV_at hf
  obtain ⟨htl, hta⟩ := rightV_at ht
  obtain ⟨v, s, r, hv, hsv, hv0, hr, hrel⟩ := hfa i hi
  obtain ⟨w, s', r', hw, hsw, hw0, hr', hrel'⟩ := hta i (by omega)
  obtain ⟨hs12, hsl⟩ := hlv s (List.mem_of_getElem? hsv)
  obtain ⟨hs12', _⟩ := hlv s' (List.mem_of_getElem? hsw)
  obtain ⟨l0, l1⟩ := hsl r (List.mem_of_getElem? hr)
  have hvl := (List.getElem?_eq_some_iff.1 hr).1
  have hwl := (List.getElem?_eq_some_iff.1 hr').1
  have hlvl : lvl c i v = r.level := by unfold lvl; rw [hrel]
  have c2 := cnt2_eq hnd i
  have cF := cntF_eq hnd hkk i
  have e1 : (fleetAt c f t ch i).1 = v + (cnt2 ch i : Int) * (w - v) := by unfold fleetAt; simp only; rw [vAt_of hv, vAt_of hw]
  have e2 : (fleetAt c f t ch i).2 = 2 * r.level + (cntF ch i : Int) := by unfold fleetAt; simp only; rw [vAt_of hv, hlvl]
  have hF2 : cntF ch i ≤ 2 := by rw [cF]; split <;> split <;> omega
  refine ⟨?_, by rw [e2]; omega⟩
  rw [e1, c2]
  split
  · simp; omega
  · simp; omega
def outL (c : Ctl) (f t : List Int) (CH : List Stp) (i : Nat) : List (Int × Int) := (List.range f.length).map fun m => fleetAt c f t (if m < i then CH else []) m
theorem outL_zero (c : Ctl) (f t : List Int) (CH : List Stp) : outL c f t CH 0 = fleetL c f t [] := by unfold outL fleetL; simp
theorem outL_at (c : Ctl) (f t : List Int) (CH : List Stp) (i : Nat) {m : Nat} (hm : m < f.length) : (outL c f t CH i)[m]? = some (fleetAt c f t (if m < i then CH else []) m) := by
  unfold outL; rw [List.getElem?_map, List.getElem?_range hm]; rfl
theorem outL_len (c : Ctl) (f t : List Int) (CH : List Stp) (i : Nat) : (outL c f t CH i).length = f.length := by unfold outL; simp
theorem outL_full (c : Ctl) (f t : List Int) (CH : List Stp) : outL c f t CH f.length = fleetL c f t CH := by
  unfold outL fleetL
  apply List.map_congr_left
  intro m hm
  rw [if_pos (List.mem_range.1 hm)]
theorem outL_set0 (c : Ctl) (f t : List Int) (CH : List Stp) {i : Nat} (hi : i < f.length) : (outL c f t CH i).set i (fleetAt c f t [] i) = outL c f t CH i := by
  apply List.ext_getElem?
  intro m
  by_cases e : i = m
  · subst e
    rw [List.getElem?_set_self (by rw [outL_len]; exact hi), outL_at c f t CH i hi, if_neg (by omega)]
  · rw [List.getElem?_set_ne e]
theorem outL_set1 (c : Ctl) (f t : List Int) (CH : List Stp) {i : Nat} (hi : i < f.length) : (outL c f t CH i).set i (fleetAt c f t CH i) = outL c f t CH (i + 1) := by
  apply List.ext_getElem?
  intro m
  by_cases hm : m < f.length
  · rw [outL_at c f t CH (i + 1) hm]
    by_cases e : i = m
    · subst e
      rw [List.getElem?_set_self (by rw [outL_len]; exact hi), if_pos (by omega)]
    · rw [List.getElem?_set_ne e, outL_at c f t CH i hm]
      by_cases h : m < i
      · rw [if_pos h, if_pos (by omega)]
      · rw [if_neg h, if_neg (by omega)]
  · rw [List.getElem?_eq_none (by rw [List.length_set, outL_len]; omega), List.getElem?_eq_none (by rw [outL_len]; omega)]
end Go.Lg.Tryz

set_option linter.unusedVariables false
set_option linter.unusedSimpArgs false
namespace Go.Lg.Tryz
open Go Go.Proofs Go.RowKit Go.Lib Go.Lg.Sem
def vecs (f t : List Int) (ch : List Stp) (i : Nat) : List T := (ch.filter fun a => a.s == i).map (vecT f t)
theorem vecs_snoc (f t : List Int) (ch : List Stp) (a : Stp) (i : Nat) : vecs f t (ch ++ [a]) i = if a.s = i then vecs f t ch i ++ [vecT f t a] else vecs f t ch i := by
  unfold vecs
  rw [List.filter_append, List.map_append]
  by_cases h : a.s = i
  · rw [if_pos h, List.filter_cons_of_pos (by simpa using h)]; rfl
  · rw [if_neg h, List.filter_cons_of_neg (by simpa using h)]; simp
def eachL (f t : List Int) (ch : List Stp) : List AV := (List.range f.length).map fun i => .own 84 (vecs f t ch i)
theorem eachL_at (f t : List Int) (ch : List Stp) {i : Nat} (hi : i < f.length) : (eachL f t ch)[i]? = some (.own 84 (vecs f t ch i)) := by
  unfold eachL; rw [List.getElem?_map, List.getElem?_range hi]; rfl
theorem eachL_len (f t : List Int) (ch : List Stp) : (eachL f t ch).length = f.length := by unfold eachL; simp
theorem eachL_set (f t : List Int) (ch : List Stp) (a : Stp) (ha : a.s < f.length) (z : AV) : ((eachL f t ch).set a.s z).set a.s (.own 84 (vecs f t ch a.s ++ [vecT f t a])) = eachL f t (ch ++ [a]) := by
  apply List.ext_getElem?
  intro i
  by_cases hi : i < f.length
  · rw [eachL_at f t _ hi, vecs_snoc]
    by_cases h : a.s = i
    · subst h
      rw [List.getElem?_set_self (by rw [List.length_set, eachL_len]; exact ha), if_pos rfl]
    · rw [List.getElem?_set_ne h, List.getElem?_set_ne h, eachL_at f t _ hi, if_neg h]
  · rw [List.getElem?_eq_none (by rw [List.length_set, List.length_set, eachL_len]; omega), List.getElem?_eq_none (by rw [eachL_len]; omega)]
theorem eachL_nil (f t : List Int) : eachL f t [] = List.replicate f.length (.own 84 []) := by
  unfold eachL
  rw [List.eq_replicate_iff]
  refine ⟨by simp, fun b hb => ?_⟩
  obtain ⟨i, _, rfl⟩ := List.mem_map.1 hb
  rfl
theorem refsL_all {κ : Loc} : ∀ {l : List AV}, (∀ v, v ∈ l → v.refs κ = false) → refsL κ l = false
  | [], _ => rfl
  | v :: l, h => by simp only [refsL, Bool.or_eq_false_iff]; exact ⟨h v (List.mem_cons_self ..), refsL_all fun u hu => h u (List.mem_cons_of_mem _ hu)⟩
theorem eachL_refs (f t : List Int) (ch : List Stp) (κ : Loc) (i : Nat) (z : AV) (hz : z.refs κ = false) : refsL κ ((eachL f t ch).set i z) = false := by
  refine refsL_all fun v hv => ?_
  rcases List.mem_or_eq_of_mem_set hv with h | rfl
  · unfold eachL at h
    obtain ⟨j, _, rfl⟩ := List.mem_map.1 h
    rfl
  · exact hz
theorem refsL_unk (κ : Loc) : ∀ k, refsL κ (List.replicate k AV.unk) = false
  | 0 => rfl
  | k + 1 => by rw [List.replicate_succ]; simp [refsL, AV.refs, refsL_unk κ k]
theorem refsL_pad (κ : Loc) (k : Nat) : ∀ xs : List T, refsL κ (xs.map AV.tr ++ List.replicate k AV.unk) = false
  | [] => refsL_unk κ k
  | x :: xs => by rw [List.map_cons, List.cons_append]; simp [refsL, AV.refs, refsL_pad κ k xs]
set_option maxRecDepth 8192 in
theorem Fleet_ok {c : Ctl} (hc : c.length ≤ 12) (hlv : LvOk c) {f t : List Int} (hf : rightV c f = true) (ht : rightV c t = true) (l : List Stp) (e : List (Nat × Nat)) (hl : l.length ≤ 63) (hf1 : 1 ≤ f.length) (hnd : l.Nodup) (hin : ∀ a, a ∈ l → a.s < f.length ∧ (a.k = 1 ∨ a.k = 2 ∨ a.k = 3)) (g : BitVec 64) (hg : ∀ j, l.length ≤ j → g.getLsbD j = false) :
    Fn Tryz.prog Gw 31 [.tr (ctlT c), .tr (plnT ⟨f, t, l, e⟩), u64 g] [] (· = .tup [.tr (.ls ((fleetL c f t (chs g l l.length)).map fun p => placeT p.1 p.2)), int 0]) := by
  have hS := SettledR_ok (by omega) hlv hf
  rw [← pls_t] at hS
  have hS2 := Settled_ok (by omega) hlv t
  have hA2 : settledA c t = .tup [.tr (.ls ((pls c t).map plT)), int 0] := by unfold settledA; rw [ht, pls_t]; rfl
  rw [hA2] at hS2
  obtain ⟨hfl, hfa⟩ := rightV_at hf
  obtain ⟨htl, hta⟩ := rightV_at ht
  have hpl : (pls c f).length = f.length := by unfold pls; simp
  refine Fn.of tab_ok Tryz.func31 rfl (by decide) (by simp [Tryz.f31]) rfl (fun κ v h => by cases h) Gw.below ?_
  refine zS ?_
  refine zR ?_
  refine zE tab_ok rfl rfl ?_
  refine zE tab_ok rfl rfl ?_
  refine zE tab_ok rfl rfl ?_
  refine zE tab_ok rfl rfl ?_
  refine zN ?_
  refine zS ?_
  refine zR ?_
  refine zE tab_ok rfl rfl ?_
  refine zE tab_ok rfl rfl ?_
  refine zE tab_ok rfl rfl ?_
  refine Sq.callv rfl (hS) ?_
  refine Sq.take rfl ?_
  refine Sq.extractR rfl ?_
  refine zE tab_ok rfl rfl ?_
  refine zE tab_ok rfl rfl ?_
  refine zE tab_ok rfl rfl ?_
  refine zN ?_
  refine zS ?_
  refine zS ?_
  refine zR ?_
  refine zE tab_ok rfl rfl ?_
  refine zE tab_ok rfl rfl ?_
  refine zE tab_ok rfl rfl ?_
  refine Sq.callv rfl (hS2) ?_
  refine zE tab_ok rfl rfl ?_
  refine zE tab_ok rfl rfl ?_
  refine zE tab_ok rfl rfl ?_
  refine zE tab_ok rfl rfl ?_
  refine zE tab_ok rfl rfl ?_
  refine zN ?_
  refine zS ?_
  refine Tr.sub (m' := [(.s 2, u64 g), (.s 3, .ptr (.l 3) 0), (.l 3, .blk 24 [.tr (.ls (c.map svcT))]), (.s 4, .ptr (.l 4) 0), (.l 4, .blk 35 [.tr (.ls (f.map intT)), .tr (.ls (t.map intT)), .tr (.ls (l.map stpT)), .tr (.ls (e.map edT))]), (.s 9, int 0), (.s 11, int 0), (.s 8, .raw 84 true ((pls c f).map plT))]) ⟨rfl, rfl, rfl, rfl, rfl, rfl, rfl, rfl, trivial⟩ ?_
  refine Tr.thaw tab_ok 8 (.l 1000) (xs := (pls c f).map plT) rfl (by intro h; have := congrArg List.length h; rw [List.length_map, hpl, List.length_nil] at this; omega) rfl (by decide) rfl rfl ?_
  intro cap hcap
  rw [flat_one (by intro x hx; obtain ⟨a, _, rfl⟩ := List.mem_map.1 hx; rfl)]
  generalize (cap - ((pls c f).map plT).length) * 1 = ku
  rw [List.length_map, hpl] at hcap ⊢
  repeat' (first|refine zS ?_|refine zR ?_|refine zE tab_ok rfl rfl ?_|refine zN ?_|(refine zG rfl rfl (fun _ => ?_) fun _ => ?_)<;>refine zE tab_ok rfl rfl ?_|(refine zC rfl (fun _ => ?_) fun _ => ?_)<;>try (rename_i h; cases h; done)|refine zB ?_|refine zK ?_|refine zZ ⟨_, rfl, ?_⟩)
  refine Sq.lenS tab_ok rfl ?_
  refine Sq.make tab_ok rfl rfl (by omega) (by omega) (by omega) (by simp [-List.map_map, freshB, pinB, refsM, AV.refs, refsL_pad, refsL_tr, refsL, Loc.eqb]; try decide) ?_
  refine zE tab_ok rfl rfl ?_
  refine zN ?_
  repeat' (first|refine zS ?_|refine zR ?_|refine zE tab_ok rfl rfl ?_|refine zN ?_|(refine zG rfl rfl (fun _ => ?_) fun _ => ?_)<;>refine zE tab_ok rfl rfl ?_|(refine zC rfl (fun _ => ?_) fun _ => ?_)<;>try (rename_i h; cases h; done)|refine zB ?_|refine zK ?_|refine zZ ⟨_, rfl, ?_⟩)
  refine Tr.loopS (fun k : Nat => [(.s 2, u64 g), (.s 3, .ptr (.l 3) 0), (.l 3, .blk 24 [.tr (.ls (c.map svcT))]), (.s 4, .ptr (.l 4) 0), (.l 4, .blk 35 [.tr (.ls (f.map intT)), .tr (.ls (t.map intT)), .tr (.ls (l.map stpT)), .tr (.ls (e.map edT))]), (.s 8, .sl (.l 1000) f.length cap), (.l 1000, .blk 84 (((pls c f).map plT).map AV.tr ++ List.replicate ku AV.unk)), (.s 12, .sl (.l 46) f.length f.length), (.l 46, .blk 79 (eachL f t (chs g l k))), (.s 47, int k)]) (fun k => 64 - k) (fun k => k ≤ 64)
    0 (by omega) (Sub.app (l := [_, _, _, _, _, _, _, _, _, _]) (H := []) ⟨rfl, rfl, rfl, rfl, rfl, rfl, rfl, rfl, by rw [show chs g l 0 = [] from rfl, eachL_nil]; rfl, rfl, trivial⟩ (fun κ v h => nomatch h)) ?_
  rintro k hk
  repeat' (first|refine zS ?_|refine zR ?_|refine zE tab_ok rfl rfl ?_|refine zN ?_|(refine zG rfl rfl (fun _ => ?_) fun _ => ?_)<;>refine zE tab_ok rfl rfl ?_|(refine zC rfl (fun _ => ?_) fun _ => ?_)<;>try (rename_i h; cases h; done)|refine zB ?_|refine zK ?_|refine zZ ⟨_, rfl, ?_⟩)
  · rename_i h2
    have hlt : k < 64 := by have := of_decide_eq_true h2; omega
    refine Sq.shift rfl g k rfl rfl (by omega) ?_
    refine Sq.bits rfl (g >>> k) 1#64 (r := g >>> k &&& 1#64) rfl rfl rfl ?_
    refine zE tab_ok rfl rfl ?_
    refine zN ?_
    refine zC rfl (fun h3 => ?_) (fun h3 => ?_)
    · have h3 : (((g >>> k &&& 1#64).toNat : Int) == 0) = true := h3
      rw [bit1_0, Bool.not_eq_true'] at h3
      refine Tr.exit ?_
      repeat' (first|refine zS ?_|refine zR ?_|refine zE tab_ok rfl rfl ?_|refine zN ?_|(refine zG rfl rfl (fun _ => ?_) fun _ => ?_)<;>refine zE tab_ok rfl rfl ?_|(refine zC rfl (fun _ => ?_) fun _ => ?_)<;>try (rename_i h; cases h; done)|refine zB ?_|refine zK ?_|refine zZ ⟨_, rfl, ?_⟩)
      exact ⟨k + 1, by omega, by omega, Sub.app (l := [_, _, _, _, _, _, _, _, _, _]) (H := []) ⟨rfl, rfl, rfl, rfl, rfl, rfl, rfl, rfl, by rw [chs_f' h3]; rfl, congrArg some (wrapz (by omega) (by omega) (by omega)), trivial⟩ (fun κ v h => nomatch h)⟩
    · have h3 : (((g >>> k &&& 1#64).toNat : Int) == 0) = false := h3
      rw [bit1_0, Bool.not_eq_false'] at h3
      have hkl : k < l.length := by
        rcases Nat.lt_or_ge k l.length with h | h
        · exact h
        · rw [hg k h] at h3; cases h3
      obtain ⟨a, ha⟩ : ∃ a, l[k]? = some a := ⟨_, List.getElem?_eq_getElem hkl⟩
      have hae : (l.map stpT)[((k : Nat) : Int).toNat]? = some (stpT a) := by simp [ha]
      obtain ⟨a1, a2⟩ := hin a (List.mem_of_getElem? ha)
      obtain ⟨v, s, r, hv, hs, hv0, hr, hrel⟩ := hfa a.s a1
      obtain ⟨w, s', r', hw, hs', hw0, hr', hrel'⟩ := hta a.s (by omega)
      obtain ⟨hs12, hsl⟩ := hlv s (List.mem_of_getElem? hs)
      obtain ⟨hs12', _⟩ := hlv s' (List.mem_of_getElem? hs')
      have hvl := (List.getElem?_eq_some_iff.1 hr).1
      have hwl := (List.getElem?_eq_some_iff.1 hr').1
      have hV := Vector_ok f t l e ha (by omega) a2 hv hw (by omega) (by omega) (by omega) (by omega)
      have hsc : chs g l (k + 1) = chs g l k ++ [a] := by rw [chs_succ ha, h3]; rfl
      have hcl := chs_len g l k
      have hvl2 : (vecs f t (chs g l k) a.s).length ≤ 64 := by unfold vecs; rw [List.length_map]; have := List.length_filter_le (fun b : Stp => b.s == a.s) (chs g l k); omega
      have hset := fun z => eachL_set f t (chs g l k) a a1 z
      have hea := eachL_at f t (chs g l k) a1
      have hel := eachL_len f t (chs g l k)
      rw [← hsc] at hset
      have hrf : ∀ κ i (xs : List T), refsL κ ((eachL f t (chs g l k)).set i (AV.deg (.own 84 xs))) = false := fun κ i xs => eachL_refs f t _ κ i _ rfl
      generalize eachL f t (chs g l k) = EL at *
      generalize vecs f t (chs g l k) a.s = VS at *
      obtain ⟨vx, vy, hvt⟩ : ∃ vx vy, vecT f t a = .sc (.complex .f64 vx vy) := by unfold vecT; split <;> exact ⟨_, _, rfl⟩
      rw [hvt] at hset hV
      repeat' (first|refine zS ?_|refine zR ?_|refine zE tab_ok rfl rfl ?_|refine zN ?_|(refine zG rfl rfl (fun _ => ?_) fun _ => ?_)<;>refine zE tab_ok rfl rfl ?_|(refine zC rfl (fun _ => ?_) fun _ => ?_)<;>try (rename_i h; cases h; done)|refine zB ?_|refine zK ?_|refine zZ ⟨_, rfl, ?_⟩)
      refine Sq.callv rfl (hV) ?_
      repeat' (first|refine zS ?_|refine zR ?_|refine zE tab_ok rfl rfl ?_|refine zN ?_|(refine zG rfl rfl (fun _ => ?_) fun _ => ?_)<;>refine zE tab_ok rfl rfl ?_|(refine zC rfl (fun _ => ?_) fun _ => ?_)<;>try (rename_i h; cases h; done)|refine zB ?_|refine zK ?_|refine zZ ⟨_, rfl, ?_⟩)
      refine zI (x := stpT a) tab_ok rfl (by omega) (hae) rfl ?_
      repeat' (first|refine zS ?_|refine zR ?_|refine zE tab_ok rfl rfl ?_|refine zN ?_|(refine zG rfl rfl (fun _ => ?_) fun _ => ?_)<;>refine zE tab_ok rfl rfl ?_|(refine zC rfl (fun _ => ?_) fun _ => ?_)<;>try (rename_i h; cases h; done)|refine zB ?_|refine zK ?_|refine zZ ⟨_, rfl, ?_⟩)
      refine zI (x := stpT a) tab_ok rfl (by omega) (hae) rfl ?_
      repeat' (first|refine zS ?_|refine zR ?_|refine zE tab_ok rfl rfl ?_|refine zN ?_|(refine zG rfl rfl (fun _ => ?_) fun _ => ?_)<;>refine zE tab_ok rfl rfl ?_|(refine zC rfl (fun _ => ?_) fun _ => ?_)<;>try (rename_i h; cases h; done)|refine zB ?_|refine zK ?_|refine zZ ⟨_, rfl, ?_⟩)
      refine Sq.lenS tab_ok rfl ?_
      repeat' (first|refine zS ?_|refine zR ?_|refine zE tab_ok rfl rfl ?_|refine zN ?_|(refine zG rfl rfl (fun _ => ?_) fun _ => ?_)<;>refine zE tab_ok rfl rfl ?_|(refine zC rfl (fun _ => ?_) fun _ => ?_)<;>try (rename_i h; cases h; done)|refine zB ?_|refine zK ?_|refine zZ ⟨_, rfl, ?_⟩)
      · rename_i h4
        exfalso
        have h4 := of_decide_eq_true h4
        omega
      refine zI (x := stpT a) tab_ok rfl (by omega) (hae) rfl ?_
      repeat' (first|refine zS ?_|refine zR ?_|refine zE tab_ok rfl rfl ?_|refine zN ?_|(refine zG rfl rfl (fun _ => ?_) fun _ => ?_)<;>refine zE tab_ok rfl rfl ?_|(refine zC rfl (fun _ => ?_) fun _ => ?_)<;>try (rename_i h; cases h; done)|refine zB ?_|refine zK ?_|refine zZ ⟨_, rfl, ?_⟩)
      refine Sq.indexS (j := ((a.s : Nat) : Int)) (len := f.length) tab_ok rfl (by omega) (by omega) ?_
      refine Sq.loadT (v := .own 84 VS) tab_ok rfl (by rw [Int.toNat_natCast, Nat.mul_one]; exact hea) rfl ?_
      refine zE tab_ok rfl rfl ?_
      refine zE tab_ok rfl (by simp [-List.map_map, freshB, pinB, refsM, AV.refs, refsL_pad, refsL_tr, refsL, Loc.eqb, hrf]; try decide) ?_
      refine Sq.append tab_ok rfl (fun y hy => by simp only [List.mem_singleton] at hy; subst hy; rfl) (by simp; omega) ?_
      refine Sq.indexS (j := ((a.s : Nat) : Int)) (len := f.length) tab_ok rfl (by omega) (by omega) ?_
      refine Sq.storeT tab_ok rfl (by rw [List.length_set, hel, Int.toNat_natCast]; omega) ?_
      repeat' (first|refine zS ?_|refine zR ?_|refine zE tab_ok rfl rfl ?_|refine zN ?_|(refine zG rfl rfl (fun _ => ?_) fun _ => ?_)<;>refine zE tab_ok rfl rfl ?_|(refine zC rfl (fun _ => ?_) fun _ => ?_)<;>try (rename_i h; cases h; done)|refine zB ?_|refine zK ?_|refine zZ ⟨_, rfl, ?_⟩)
      exact ⟨k + 1, by omega, by omega, Sub.app (l := [_, _, _, _, _, _, _, _, _, _]) (H := []) ⟨rfl, rfl, rfl, rfl, rfl, rfl, rfl, rfl, congrArg some (congrArg (AV.blk _) (by rw [← hset (AV.deg (.own 84 VS)), Int.toNat_natCast, Nat.mul_one])), congrArg some (wrapz (by omega) (by omega) (by omega)), trivial⟩ (fun κ v h => nomatch h)⟩
  · rename_i h2
    have : k = 64 := by have := of_decide_eq_false h2; omega
    subst this
    have hch : chs g l 64 = chs g l l.length := by
      have := chs_ge (g := g) (l := l) hg (64 - l.length)
      rw [show l.length + (64 - l.length) = 64 by omega] at this
      exact this
    rw [hch, ← fleet0c t hf]
    have hCn := chs_nodup (g := g) hnd l.length
    have hCk : ∀ b, b ∈ chs g l l.length → b.k = 1 ∨ b.k = 2 ∨ b.k = 3 := fun b hb => by
      obtain ⟨j, _, _, h⟩ := chs_mem.1 hb
      exact (hin b (List.mem_of_getElem? h)).2
    clear hch
    have hCl := chs_len g l l.length
    generalize chs g l l.length = CH at *
    refine Tr.exit ?_
    refine zS ?_
    refine zS ?_
    refine zR ?_
    refine zE tab_ok rfl rfl ?_
    refine Sq.lenS tab_ok rfl ?_
    repeat' (first|refine zS ?_|refine zR ?_|refine zE tab_ok rfl rfl ?_|refine zN ?_|(refine zG rfl rfl (fun _ => ?_) fun _ => ?_)<;>refine zE tab_ok rfl rfl ?_|(refine zC rfl (fun _ => ?_) fun _ => ?_)<;>try (rename_i h; cases h; done)|refine zB ?_|refine zK ?_|refine zZ ⟨_, rfl, ?_⟩)
    refine Tr.loopS (fun i : Nat => [(.s 8, .sl (.l 1000) f.length cap), (.l 1000, .blk 84 (((outL c f t CH i).map pcT).map AV.tr ++ List.replicate ku AV.unk)), (.s 100, .sl (.l 46) f.length f.length), (.l 46, .blk 79 (eachL f t CH)), (.s 101, int f.length), (.s 102, int i)]) (fun i => f.length - i) (fun i => i ≤ f.length)
      0 (by omega) (Sub.app (l := [_, _, _, _, _, _]) (H := []) ⟨rfl, by rw [outL_zero]; rfl, rfl, rfl, rfl, rfl, trivial⟩ (fun κ v h => nomatch h)) ?_
    rintro i hi
    repeat' (first|refine zS ?_|refine zR ?_|refine zE tab_ok rfl rfl ?_|refine zN ?_|(refine zG rfl rfl (fun _ => ?_) fun _ => ?_)<;>refine zE tab_ok rfl rfl ?_|(refine zC rfl (fun _ => ?_) fun _ => ?_)<;>try (rename_i h; cases h; done)|refine zB ?_|refine zK ?_|refine zZ ⟨_, rfl, ?_⟩)
    · rename_i h3
      have hlt : i < f.length := by have := of_decide_eq_true h3; omega
      have hea := eachL_at f t CH hlt
      have hol := outL_len c f t CH i
      have hs0 := outL_set0 c f t CH hlt
      have hs1 := outL_set1 c f t CH hlt
      refine Sq.indexS (j := ((i : Nat) : Int)) (len := f.length) tab_ok rfl (by omega) (by omega) ?_
      refine Sq.loadS (v := .own 84 (vecs f t CH i)) tab_ok rfl (by rw [Int.toNat_natCast, Nat.mul_one]; exact hea) ?_
      repeat' (first|refine zS ?_|refine zR ?_|refine zE tab_ok rfl rfl ?_|refine zN ?_|(refine zG rfl rfl (fun _ => ?_) fun _ => ?_)<;>refine zE tab_ok rfl rfl ?_|(refine zC rfl (fun _ => ?_) fun _ => ?_)<;>try (rename_i h; cases h; done)|refine zB ?_|refine zK ?_|refine zZ ⟨_, rfl, ?_⟩)
      have hVS : vecs f t CH i = (svcCh CH i).map (vecT f t) := rfl
      rw [hVS] at hea ⊢
      have hsvn : (svcCh CH i).Nodup := hCn.filter _
      have hsvs : ∀ b, b ∈ svcCh CH i → b.s = i ∧ b ∈ CH := fun b hb => by
        unfold svcCh at hb
        rw [List.mem_filter, beq_iff_eq] at hb
        exact ⟨hb.2, hb.1⟩
      have hsf := svc_fleet c f t CH i
      have hSVl : (svcCh CH i).length ≤ 63 := by have := List.length_filter_le (fun b : Stp => b.s == i) CH; unfold svcCh; omega
      have hrng := fleet_rng hlv hf ht hlt hCn hCk
      have hadd := fun ch a => vec_add hlv hf ht (ch := ch) (a := a) hlt
      generalize svcCh CH i = SV at *
      generalize outL c f t CH i = O at *
      generalize eachL f t CH = EL at *
      have hat : ∀ (p : Int × Int), (((O.set i p).map pcT).map AV.tr ++ List.replicate ku AV.unk)[((i : Nat) : Int).toNat * 1]? = some (.tr (pcT p)) := fun p => by
        rw [Int.toNat_natCast, Nat.mul_one, List.getElem?_append_left (by rw [List.length_map, List.length_map, List.length_set]; omega), List.getElem?_map, List.getElem?_map, List.getElem?_set_self (by omega)]; rfl
      have hst : ∀ (p p' : Int × Int), (((O.set i p).map pcT).map AV.tr ++ List.replicate ku AV.unk).set (((i : Nat) : Int).toNat * 1) (.tr (pcT p')) = ((O.set i p').map pcT).map AV.tr ++ List.replicate ku AV.unk := fun p p' => by
        rw [Int.toNat_natCast, Nat.mul_one, List.set_append_left _ _ (by rw [List.length_map, List.length_map, List.length_set]; omega), List.map_set, List.map_set, List.map_set, List.map_set, List.set_set]
      have hln : ∀ (p : Int × Int), i < (((O.set i p).map pcT).map AV.tr ++ List.replicate ku AV.unk).length := fun p => by
        rw [List.length_append, List.length_map, List.length_map, List.length_set]; omega
      refine Tr.loopS (fun j : Nat => [(.s 8, .sl (.l 1000) f.length cap), (.l 1000, .blk 84 (((O.set i (fleetAt c f t (SV.take j) i)).map pcT).map AV.tr ++ List.replicate ku AV.unk)), (.s 100, .sl (.l 46) f.length f.length), (.l 46, .blk 79 EL), (.s 101, int f.length), (.s 102, int i), (.s 17, int i), (.s 107, .tr (.ls (SV.map (vecT f t)))), (.s 108, int (SV.map (vecT f t)).length), (.s 109, int j)]) (fun j => SV.length - j) (fun j => j ≤ SV.length)
        0 (by omega) (Sub.app (l := [_, _, _, _, _, _, _, _, _, _]) (H := []) ⟨rfl, by rw [List.take_zero, hs0]; rfl, rfl, rfl, rfl, rfl, rfl, rfl, rfl, rfl, trivial⟩ (fun κ v h => nomatch h)) ?_
      rintro j hj
      repeat' (first|refine zS ?_|refine zR ?_|refine zE tab_ok rfl rfl ?_|refine zN ?_|(refine zG rfl rfl (fun _ => ?_) fun _ => ?_)<;>refine zE tab_ok rfl rfl ?_|(refine zC rfl (fun _ => ?_) fun _ => ?_)<;>try (rename_i h; cases h; done)|refine zB ?_|refine zK ?_|refine zZ ⟨_, rfl, ?_⟩)
      · rename_i h4
        have h4 : decide ((j : Int) < ((SV.map (vecT f t)).length : Int)) = true := h4
        have hjl : j < SV.length := by simp only [List.length_map, decide_eq_true_eq] at h4; omega
        obtain ⟨a, ha⟩ : ∃ a, SV[j]? = some a := ⟨_, List.getElem?_eq_getElem hjl⟩
        have htk : SV.take (j + 1) = SV.take j ++ [a] := by rw [List.take_add_one, ha]; rfl
        obtain ⟨hsa, ham⟩ := hsvs a (List.mem_of_getElem? ha)
        obtain ⟨x, y, hxy, hb⟩ := hadd (SV.take j) a hsa (hCk a ham) (by rw [← htk]; exact hsvn.sublist (List.take_sublist ..)) (by rw [← htk]; intro b hb; exact hCk b (hsvs b (List.mem_of_mem_take hb)).2)
        rw [← htk] at hb
        have hae : (SV.map (vecT f t))[((j : Nat) : Int).toNat]? = some (.sc (.complex .f64 x y)) := by simp [ha, hxy]
        have hst2 := hst (fleetAt c f t (SV.take j) i) (fleetAt c f t (SV.take (j + 1)) i)
        have hat2 := hat (fleetAt c f t (SV.take j) i)
        have hln2 := hln (fleetAt c f t (SV.take j) i)
        generalize fleetAt c f t (SV.take j) i = P at *
        obtain ⟨P1, P2⟩ := P
        refine zI (x := .sc (.complex .f64 x y)) tab_ok rfl (by omega) (hae) rfl ?_
        repeat' (first|refine zS ?_|refine zR ?_|refine zE tab_ok rfl rfl ?_|refine zN ?_|(refine zG rfl rfl (fun _ => ?_) fun _ => ?_)<;>refine zE tab_ok rfl rfl ?_|(refine zC rfl (fun _ => ?_) fun _ => ?_)<;>try (rename_i h; cases h; done)|refine zB ?_|refine zK ?_|refine zZ ⟨_, rfl, ?_⟩)
        refine Sq.indexS (j := ((i : Nat) : Int)) (len := f.length) tab_ok rfl (by omega) (by omega) ?_
        refine Sq.loadS (v := .tr (pcT (P1, P2))) tab_ok rfl hat2 ?_
        refine zE tab_ok rfl rfl ?_
        refine Sq.cbin rfl hb ?_
        refine Sq.indexS (j := ((i : Nat) : Int)) (len := f.length) tab_ok rfl (by omega) (by omega) ?_
        refine Sq.storeS tab_ok rfl (by rw [Int.toNat_natCast, Nat.mul_one]; exact hln2) ?_
        repeat' (first|refine zS ?_|refine zR ?_|refine zE tab_ok rfl rfl ?_|refine zN ?_|(refine zG rfl rfl (fun _ => ?_) fun _ => ?_)<;>refine zE tab_ok rfl rfl ?_|(refine zC rfl (fun _ => ?_) fun _ => ?_)<;>try (rename_i h; cases h; done)|refine zB ?_|refine zK ?_|refine zZ ⟨_, rfl, ?_⟩)
        exact ⟨j + 1, by omega, by omega, Sub.app (l := [_, _, _, _, _, _, _, _, _, _]) (H := []) ⟨rfl, congrArg some (congrArg (AV.blk _) hst2), rfl, rfl, rfl, rfl, rfl, rfl, rfl, congrArg some (wrapz (by omega) (by omega) (by omega)), trivial⟩ (fun κ v h => nomatch h)⟩
      · rename_i h4
        have h4 : decide ((j : Int) < ((SV.map (vecT f t)).length : Int)) = false := h4
        have : j = SV.length := by simp only [List.length_map, decide_eq_false_iff_not] at h4; omega
        subst this
        rw [List.take_of_length_le (Nat.le_refl _), hsf]
        have hat2 := hat (fleetAt c f t CH i)
        rw [hs1] at hat2 ⊢
        have hPt := Parts_ok _ _ _ _ (OkX.of (v := (fleetAt c f t CH i).1) (by omega) (by omega)) (OkX.of (v := (fleetAt c f t CH i).2) (by omega) (by omega))
        rw [if_pos ⟨hrng.1.1, hrng.2.1⟩] at hPt
        generalize fleetAt c f t CH i = P at *
        obtain ⟨P1, P2⟩ := P
        have hPt : Fn Tryz.prog Gw 69 [.tr (pcT (P1, P2))] [] (· = .tup [int P1, int P2, int 0]) := hPt
        generalize pcT (P1, P2) = X at *
        refine Tr.exit ?_
        repeat' (first|refine zS ?_|refine zR ?_|refine zE tab_ok rfl rfl ?_|refine zN ?_|(refine zG rfl rfl (fun _ => ?_) fun _ => ?_)<;>refine zE tab_ok rfl rfl ?_|(refine zC rfl (fun _ => ?_) fun _ => ?_)<;>try (rename_i h; cases h; done)|refine zB ?_|refine zK ?_|refine zZ ⟨_, rfl, ?_⟩)
        refine Sq.indexS (j := ((i : Nat) : Int)) (len := f.length) tab_ok rfl (by omega) (by omega) ?_
        refine Sq.loadS (v := .tr X) tab_ok rfl hat2 ?_
        refine Sq.callv rfl (hPt) ?_
        repeat' (first|refine zS ?_|refine zR ?_|refine zE tab_ok rfl rfl ?_|refine zN ?_|(refine zG rfl rfl (fun _ => ?_) fun _ => ?_)<;>refine zE tab_ok rfl rfl ?_|(refine zC rfl (fun _ => ?_) fun _ => ?_)<;>try (rename_i h; cases h; done)|refine zB ?_|refine zK ?_|refine zZ ⟨_, rfl, ?_⟩)
        exact ⟨i + 1, by omega, by omega, Sub.app (l := [_, _, _, _, _, _]) (H := []) ⟨rfl, rfl, rfl, rfl, rfl, congrArg some (wrapz (by omega) (by omega) (by omega)), trivial⟩ (fun κ v h => nomatch h)⟩
    · rename_i h3
      have : i = f.length := by have := of_decide_eq_false h3; omega
      subst this
      have hol := outL_len c f t CH f.length
      rw [← outL_full c f t CH]
      generalize outL c f t CH f.length = O at *
      refine Tr.exit ?_
      refine Tr.sub (m' := [(.s 8, .sl (.l 1000) f.length cap), (.l 1000, .blk 84 ((O.map pcT).map AV.tr ++ List.replicate ku AV.unk))]) ⟨rfl, rfl, trivial⟩ ?_
      refine Tr.turn (fun Γ a w h => RelX.freeze (es := 1) (xs := O.map pcT) (cap := cap) (len := f.length) (cells := (O.map pcT).map AV.tr ++ List.replicate ku AV.unk) h (s := 8) (κ := .l 1000) rfl rfl rfl (by rw [List.length_map]; exact hol) (by rw [List.length_append, List.length_map, List.length_map]; omega) (by intro x hx; obtain ⟨a, _, rfl⟩ := List.mem_map.1 hx; rfl) ?_) ?_
      · intro i' j x y hx hy
        have hm := List.mem_of_getElem? hx
        obtain ⟨z, _, rfl⟩ := List.mem_map.1 hm
        cases j with
        | succ j => simp [T.cells] at hy
        | zero =>
          obtain rfl : pcT z = y := by simpa [T.cells] using hy
          have hil : i' < (O.map pcT).length := (List.getElem?_eq_some_iff.1 hx).1
          exact ⟨.tr (pcT z), by rw [Nat.mul_one, Nat.add_zero, List.getElem?_append_left (by rw [List.length_map]; exact hil), List.getElem?_map, hx]; rfl, rfl⟩
      repeat' (first|refine zS ?_|refine zR ?_|refine zE tab_ok rfl rfl ?_|refine zN ?_|(refine zG rfl rfl (fun _ => ?_) fun _ => ?_)<;>refine zE tab_ok rfl rfl ?_|(refine zC rfl (fun _ => ?_) fun _ => ?_)<;>try (rename_i h; cases h; done)|refine zB ?_|refine zK ?_|refine zZ ⟨_, rfl, ?_⟩)
      rfl
end Go.Lg.Tryz

set_option linter.unusedVariables false
set_option linter.unusedSimpArgs false
namespace Go.Lg.Tryz
open Go Go.Proofs Go.RowKit Go.Lib Go.Lg.Sem
theorem chs_full {g : BitVec 64} {l : List Stp} (h : ∀ j, j < l.length → g.getLsbD j = true) : chs g l l.length = l := by
  have key : ∀ n, n ≤ l.length → chs g l n = l.take n := by
    intro n
    induction n with
    | zero => intro _; rfl
    | succ n ih =>
      intro hn
      obtain ⟨a, ha⟩ : ∃ a, l[n]? = some a := ⟨_, List.getElem?_eq_getElem (by omega)⟩
      rw [chs_succ ha, ih (by omega), h n (by omega), List.take_add_one, ha]; rfl
  rw [key l.length (Nat.le_refl _), List.take_of_length_le (Nat.le_refl _)]
theorem full_bits (n : Nat) (hn : n ≤ 20) : ∀ j, (BitVec.ofNat 64 (2 ^ n - 1)).getLsbD j = decide (j < n) := by
  intro j
  rw [BitVec.getLsbD_ofNat, Nat.testBit_two_pow_sub_one]
  by_cases h : j < n
  · have : j < 64 := by omega
    simp [h, this]
  · simp [h]
theorem fleet_done {c : Ctl} {f t : List Int} (he : Ends0 c f t) : (fleetL c f t (stepsV c f t)).map pcT = (pls c t).map plT := by
  have hlen : t.length = f.length := (rightV_at he.rt).1.trans (rightV_at he.rf).1.symm
  rw [← fleet0c (c := c) (f := t) t he.rt]
  congr 1
  unfold fleetL
  rw [hlen]
  apply List.map_congr_left
  intro i hi
  have hi := List.mem_range.1 hi
  have hnd := stepsUp_nodup c f t f.length
  have hin := step_in (c := c) (f := f) (t := t) hi
  have c2 := cnt2_eq hnd i
  have cF := cntF_eq hnd (fun a ha => (stepsAt_mem (stepsUp_mem.1 ha).2).2) i
  have hr := he.rise i hi
  unfold riseV at hr hin
  show fleetAt c f t (stepsUp c f t f.length) i = fleetAt c t t [] i
  have h1 : (⟨i, 1⟩ : Stp) ∈ stepsUp c f t f.length ↔ vAt f i ≠ vAt t i ∧ (if lvl c i (vAt t i) - lvl c i (vAt f i) = 0 then (1 : Nat) = 2 else (1 : Nat) = 1 ∨ (1 : Nat) = 2 ∨ (1 : Nat) = 3) := hin 1
  have h2 : (⟨i, 2⟩ : Stp) ∈ stepsUp c f t f.length ↔ vAt f i ≠ vAt t i ∧ (if lvl c i (vAt t i) - lvl c i (vAt f i) = 0 then (2 : Nat) = 2 else (2 : Nat) = 1 ∨ (2 : Nat) = 2 ∨ (2 : Nat) = 3) := hin 2
  have h3 : (⟨i, 3⟩ : Stp) ∈ stepsUp c f t f.length ↔ vAt f i ≠ vAt t i ∧ (if lvl c i (vAt t i) - lvl c i (vAt f i) = 0 then (3 : Nat) = 2 else (3 : Nat) = 1 ∨ (3 : Nat) = 2 ∨ (3 : Nat) = 3) := hin 3
  unfold fleetAt
  have z2 : cnt2 [] i = 0 := rfl
  have zF : cntF [] i = 0 := rfl
  rw [c2, cF, z2, zF]
  by_cases hv : vAt f i = vAt t i
  · rw [if_neg (fun h => (h2.1 h).1 hv), if_neg (fun h => (h1.1 h).1 hv), if_neg (fun h => (h3.1 h).1 hv), hv] <;> simp
  · have m2 : (⟨i, 2⟩ : Stp) ∈ stepsUp c f t f.length := h2.2 ⟨hv, by split <;> simp⟩
    rw [if_pos m2]
    rcases hr with h0 | h0
    · rw [if_neg (fun h => by have := (h1.1 h).2; rw [if_pos h0] at this; omega), if_neg (fun h => by have := (h3.1 h).2; rw [if_pos h0] at this; omega)]
      simp only [Prod.mk.injEq]
      constructor
      · simp; omega
      · simp; omega
    · rw [if_pos (h1.2 ⟨hv, by rw [if_neg (by omega)]; simp⟩), if_pos (h3.2 ⟨hv, by rw [if_neg (by omega)]; simp⟩)]
      simp only [Prod.mk.injEq]
      constructor
      · simp; omega
      · simp; omega
theorem Same_ok (L : List (Int × Int)) (hL : L.length ≤ 1000) (hb : ∀ p, p ∈ L → (0 ≤ p.1 ∧ p.1 ≤ 11) ∧ 0 ≤ p.2 ∧ p.2 ≤ 2002) : Fn Tryz.prog Gw 33 [.tr (.ls (L.map pcT)), .tr (.ls (L.map pcT))] [] (· = bool true) := by
  refine Fn.of tab_ok Tryz.func33 rfl (by decide) (by simp [Tryz.f33]) rfl (fun κ v h => by cases h) Gw.below ?_
  repeat' (first|refine zS ?_|refine zR ?_|refine zE tab_ok rfl rfl ?_|refine zN ?_|(refine zG rfl rfl (fun _ => ?_) fun _ => ?_)<;>refine zE tab_ok rfl rfl ?_|(refine zC rfl (fun _ => ?_) fun _ => ?_)<;>try (rename_i h; cases h; done)|refine zB ?_|refine zK ?_|refine zZ ⟨_, rfl, ?_⟩)
  · rename_i h1
    exfalso
    have h1 : (((L.map pcT).length : Int) != ((L.map pcT).length : Int)) = true := h1
    simp at h1
  refine Tr.loopS (fun i : Nat => [(.s 1, .tr (.ls (L.map pcT))), (.s 12, .tr (.ls (L.map pcT))), (.s 13, int (L.map pcT).length), (.s 14, int i)]) (fun i => L.length - i) (fun i => i ≤ L.length)
    0 (by omega) (Sub.app (l := [_, _, _, _]) (H := []) ⟨rfl, rfl, rfl, rfl, trivial⟩ (fun κ v h => nomatch h)) ?_
  rintro i hi
  repeat' (first|refine zS ?_|refine zR ?_|refine zE tab_ok rfl rfl ?_|refine zN ?_|(refine zG rfl rfl (fun _ => ?_) fun _ => ?_)<;>refine zE tab_ok rfl rfl ?_|(refine zC rfl (fun _ => ?_) fun _ => ?_)<;>try (rename_i h; cases h; done)|refine zB ?_|refine zK ?_|refine zZ ⟨_, rfl, ?_⟩)
  · rename_i h2
    have h2 : decide ((i : Int) < ((L.map pcT).length : Int)) = true := h2
    have hlt : i < L.length := by simp only [List.length_map, decide_eq_true_eq] at h2; omega
    obtain ⟨p, hp⟩ : ∃ x, L[i]? = some x := ⟨_, List.getElem?_eq_getElem hlt⟩
    have hpe : (L.map pcT)[((i : Nat) : Int).toNat]? = some (.sc (.complex .f64 (floatOfInt .f64 p.1) (floatOfInt .f64 p.2))) := by simp [hp]
    obtain ⟨p1, p2⟩ := hb p (List.mem_of_getElem? hp)
    have hcc := ccmp_same (OkX.of (v := p.1) (by omega) (by omega)) (OkX.of (v := p.2) (by omega) (by omega))
    generalize floatOfInt .f64 p.1 = F1 at *
    generalize floatOfInt .f64 p.2 = F2 at *
    refine zI (x := .sc (.complex .f64 F1 F2)) tab_ok rfl (by omega) (hpe) rfl ?_
    repeat' (first|refine zS ?_|refine zR ?_|refine zE tab_ok rfl rfl ?_|refine zN ?_|(refine zG rfl rfl (fun _ => ?_) fun _ => ?_)<;>refine zE tab_ok rfl rfl ?_|(refine zC rfl (fun _ => ?_) fun _ => ?_)<;>try (rename_i h; cases h; done)|refine zB ?_|refine zK ?_|refine zZ ⟨_, rfl, ?_⟩)
    refine zI (x := .sc (.complex .f64 F1 F2)) tab_ok rfl (by omega) (hpe) rfl ?_
    repeat' (first|refine zS ?_|refine zR ?_|refine zE tab_ok rfl rfl ?_|refine zN ?_|(refine zG rfl rfl (fun _ => ?_) fun _ => ?_)<;>refine zE tab_ok rfl rfl ?_|(refine zC rfl (fun _ => ?_) fun _ => ?_)<;>try (rename_i h; cases h; done)|refine zB ?_|refine zK ?_|refine zZ ⟨_, rfl, ?_⟩)
    refine Sq.ccmp (b := false) rfl hcc ?_
    repeat' (first|refine zS ?_|refine zR ?_|refine zE tab_ok rfl rfl ?_|refine zN ?_|(refine zG rfl rfl (fun _ => ?_) fun _ => ?_)<;>refine zE tab_ok rfl rfl ?_|(refine zC rfl (fun _ => ?_) fun _ => ?_)<;>try (rename_i h; cases h; done)|refine zB ?_|refine zK ?_|refine zZ ⟨_, rfl, ?_⟩)
    exact ⟨i + 1, by omega, by omega, Sub.app (l := [_, _, _, _]) (H := []) ⟨rfl, rfl, rfl, congrArg some (wrapz (by omega) (by omega) (by omega)), trivial⟩ (fun κ v h => nomatch h)⟩
  · refine Tr.exit ?_
    repeat' (first|refine zS ?_|refine zR ?_|refine zE tab_ok rfl rfl ?_|refine zN ?_|(refine zG rfl rfl (fun _ => ?_) fun _ => ?_)<;>refine zE tab_ok rfl rfl ?_|(refine zC rfl (fun _ => ?_) fun _ => ?_)<;>try (rename_i h; cases h; done)|refine zB ?_|refine zK ?_|refine zZ ⟨_, rfl, ?_⟩)
    rfl
set_option maxRecDepth 8192 in
theorem PlanRight_ok (c : Ctl) (f t : List Int) : Fn Tryz.prog Gw 9 [.tr (ctlT c), .tr (.ls (f.map intT)), .tr (.ls (t.map intT))] [] (· = bool true) := by
  obtain ⟨cyc, hc⟩ := cyc_ex c
  have hA := planAnchor_ok
  have hM := catRight_ok c hc
  refine Fn.of tab_ok Tryz.func9 rfl (by decide) (by simp [Tryz.f9]) rfl (fun κ v h => by cases h) Gw.below ?_
  repeat' (first|refine zS ?_|refine zR ?_|refine zE tab_ok rfl rfl ?_|refine zN ?_|(refine zG rfl rfl (fun _ => ?_) fun _ => ?_)<;>refine zE tab_ok rfl rfl ?_|(refine zC rfl (fun _ => ?_) fun _ => ?_)<;>try (rename_i h; cases h; done)|refine zB ?_|refine zK ?_|refine zZ ⟨_, rfl, ?_⟩)
  refine Sq.callv rfl (hA) ?_
  repeat' (first|refine zS ?_|refine zR ?_|refine zE tab_ok rfl rfl ?_|refine zN ?_|(refine zG rfl rfl (fun _ => ?_) fun _ => ?_)<;>refine zE tab_ok rfl rfl ?_|(refine zC rfl (fun _ => ?_) fun _ => ?_)<;>try (rename_i h; cases h; done)|refine zB ?_|refine zK ?_|refine zZ ⟨_, rfl, ?_⟩)
  refine zL rfl hM ?_
  rintro _ ⟨q, rfl, hq⟩
  cases hs : smallC c && ((checkV c cyc).2.2 == 0)
  · repeat' (first|refine zS ?_|refine zR ?_|refine zE tab_ok rfl rfl ?_|refine zN ?_|(refine zG rfl rfl (fun _ => ?_) fun _ => ?_)<;>refine zE tab_ok rfl rfl ?_|(refine zC rfl (fun _ => ?_) fun _ => ?_)<;>try (rename_i h; cases h; done)|refine zB ?_|refine zK ?_|refine zZ ⟨_, rfl, ?_⟩)
    rfl
  have e := hq hs
  subst e
  rw [Bool.and_eq_true, beq_iff_eq] at hs
  obtain ⟨hs, hv⟩ := hs
  obtain ⟨hc1, hc2, hcy, _⟩ := right_of hv
  have hlv := levels_of hv
  have hok := ctl_ok hs
  obtain ⟨cy, hcy⟩ := cycP_ex (stepsV q f t).length (befV q f t)
  repeat' (first|refine zS ?_|refine zR ?_|refine zE tab_ok rfl rfl ?_|refine zN ?_|(refine zG rfl rfl (fun _ => ?_) fun _ => ?_)<;>refine zE tab_ok rfl rfl ?_|(refine zC rfl (fun _ => ?_) fun _ => ?_)<;>try (rename_i h; cases h; done)|refine zB ?_|refine zK ?_|refine zZ ⟨_, rfl, ?_⟩)
  · rfl
  · rfl
  rename_i g1 g2
  have g1 : decide (((f.map intT).length : Int) > 30) = false := g1
  rw [List.length_map] at g1
  have g1 := of_decide_eq_false g1
  have g2 : decide (((t.map intT).length : Int) > 30) = false := g2
  rw [List.length_map] at g2
  have g2 := of_decide_eq_false g2
  have h1 := Make_ok hok hc2 hlv f t cy hcy (by omega) (by omega)
  by_cases hz : makeZ q f t cy ≠ 0
  · have hP : makeP q f t cy = ⟨[], [], [], []⟩ := by unfold makeP; rw [if_neg hz]; rfl
    rw [hP] at h1
    generalize makeZ q f t cy = z at *
    refine Sq.callv rfl (h1) ?_
    repeat' (first|refine zS ?_|refine zR ?_|refine zE tab_ok rfl rfl ?_|refine zN ?_|(refine zG rfl rfl (fun _ => ?_) fun _ => ?_)<;>refine zE tab_ok rfl rfl ?_|(refine zC rfl (fun _ => ?_) fun _ => ?_)<;>try (rename_i h; cases h; done)|refine zB ?_|refine zK ?_|refine zZ ⟨_, rfl, ?_⟩)
    · rfl
    all_goals
      rename_i h
      have h : (z != 0) = false := h
      simp at h; exact absurd h hz
  have hz : makeZ q f t cy = 0 := Classical.not_not.1 hz
  have he : endsV q f t = 0 := by
    unfold makeZ at hz
    split at hz
    · assumption
    · exact hz
  have hcf : cy = false := by
    unfold makeZ at hz
    rw [if_pos he] at hz
    cases cy
    · rfl
    · simp at hz
  subst hcf
  have h1e : makeP q f t false = ⟨f, t, stepsV q f t, befV q f t⟩ := by unfold makeP; rw [if_pos hz]; rfl
  rw [hz, h1e] at h1
  have E := ends0 he
  have hfl := (rightV_at E.rf).1
  have htl := (rightV_at E.rt).1
  obtain ⟨b1, b2⟩ := bef_bound (c := q) (t := t) (f := f) (by omega)
  have hpb : plainB f t (stepsV q f t) (befV q f t) = true := by
    unfold plainB
    simp only [Bool.and_eq_true, decide_eq_true_eq]
    omega
  have hPl := plain_ok f t (stepsV q f t) (befV q f t) (by omega)
  rw [hpb] at hPl
  refine Sq.callv rfl (h1) ?_
  repeat' (first|refine zS ?_|refine zR ?_|refine zE tab_ok rfl rfl ?_|refine zN ?_|(refine zG rfl rfl (fun _ => ?_) fun _ => ?_)<;>refine zE tab_ok rfl rfl ?_|(refine zC rfl (fun _ => ?_) fun _ => ?_)<;>try (rename_i h; cases h; done)|refine zB ?_|refine zK ?_|refine zZ ⟨_, rfl, ?_⟩)
  refine Sq.callv rfl (hPl) ?_
  repeat' (first|refine zS ?_|refine zR ?_|refine zE tab_ok rfl rfl ?_|refine zN ?_|(refine zG rfl rfl (fun _ => ?_) fun _ => ?_)<;>refine zE tab_ok rfl rfl ?_|(refine zC rfl (fun _ => ?_) fun _ => ?_)<;>try (rename_i h; cases h; done)|refine zB ?_|refine zK ?_|refine zZ ⟨_, rfl, ?_⟩)
  · rfl
  rename_i g3
  have g3 : decide ((((stepsV q f t).map stpT).length : Int) > 10) = false := g3
  rw [List.length_map] at g3
  have g3 := of_decide_eq_false g3
  have hrs := rch_self q f t
  have hbp := bef_p q f t
  have hC1 := refPCheck_ok hok hc2 hlv he (befV q f t) (by omega) (by omega) hbp hcy hrs
  have hC2 := planCheck_ok hok hc2 hlv f t (stepsV q f t) (befV q f t) (by omega) (by omega) hbp false hcy true ⟨fun _ => hrs, fun _ => rfl⟩ (by omega) (by omega)
  have hcz : chkZ q f t (stepsV q f t) false true = 0 := by unfold chkZ; rw [if_pos he, if_pos rfl]; rfl
  rw [hcz] at hC2
  have hfb := full_bits (stepsV q f t).length (by omega)
  have hFl := Fleet_ok hc2 hlv E.rf E.rt (stepsV q f t) (befV q f t) (by omega) (by omega) (stepsUp_nodup q f t _) (fun a ha => by
    obtain ⟨m1, m2⟩ := stepsUp_mem.1 ha
    exact ⟨m1, (stepsAt_mem m2).2⟩) (BitVec.ofNat 64 (2 ^ (stepsV q f t).length - 1)) (fun j hj => by rw [hfb, decide_eq_false (by omega)])
  rw [chs_full (fun j hj => by rw [hfb, decide_eq_true hj])] at hFl
  have hS := Settled_ok (by omega) hlv t
  have hA2 : settledA q t = .tup [.tr (.ls ((pls q t).map plT)), int 0] := by unfold settledA; rw [E.rt, pls_t]; rfl
  rw [hA2, ← fleet_done E] at hS
  have hSm := Same_ok (fleetL q f t (stepsV q f t)) (by rw [fleetL_len]; omega) (fun p hp => by
    unfold fleetL at hp
    obtain ⟨i, hi, rfl⟩ := List.mem_map.1 hp
    exact fleet_rng hlv E.rf E.rt (List.mem_range.1 hi) (stepsUp_nodup q f t _) (fun b hb => (stepsAt_mem (stepsUp_mem.1 hb).2).2))
  generalize (fleetL q f t (stepsV q f t)).map pcT = FL at *
  have hw : (AV.tr (.sc (.int .u64 (IntKind.u64.wrap (((1#64 <<< (stepsV q f t).length).toNat : Int) - 1))))) = u64 (BitVec.ofNat 64 (2 ^ (stepsV q f t).length - 1)) := by
    have hp : 2 ^ (stepsV q f t).length ≤ 2 ^ 20 := Nat.pow_le_pow_right (by omega) (by omega)
    have h0 : 1 ≤ 2 ^ (stepsV q f t).length := Nat.one_le_two_pow
    have h20 : (2 : Nat) ^ 20 = 1048576 := rfl
    have h2 : ((1#64 <<< (stepsV q f t).length).toNat : Int) - 1 = ((BitVec.ofNat 64 (2 ^ (stepsV q f t).length - 1)).toNat : Int) := by
      rw [BitVec.toNat_shiftLeft, BitVec.toNat_ofNat, Nat.shiftLeft_eq, ofNat_toNat (by omega)]
      rw [show 1 % 2 ^ 64 * 2 ^ (stepsV q f t).length = 2 ^ (stepsV q f t).length by simp, Nat.mod_eq_of_lt (by omega)]
      omega
    rw [h2, wrap_bv]
  have hml : ((stepsV q f t).map stpT).length = (stepsV q f t).length := List.length_map ..
  generalize stepsV q f t = l at *
  generalize befV q f t = b at *
  refine Sq.callv rfl (hC1) ?_
  repeat' (first|refine zS ?_|refine zR ?_|refine zE tab_ok rfl rfl ?_|refine zN ?_|(refine zG rfl rfl (fun _ => ?_) fun _ => ?_)<;>refine zE tab_ok rfl rfl ?_|(refine zC rfl (fun _ => ?_) fun _ => ?_)<;>try (rename_i h; cases h; done)|refine zB ?_|refine zK ?_|refine zZ ⟨_, rfl, ?_⟩)
  refine Sq.callv rfl (hC2) ?_
  repeat' (first|refine zS ?_|refine zR ?_|refine zE tab_ok rfl rfl ?_|refine zN ?_|(refine zG rfl rfl (fun _ => ?_) fun _ => ?_)<;>refine zE tab_ok rfl rfl ?_|(refine zC rfl (fun _ => ?_) fun _ => ?_)<;>try (rename_i h; cases h; done)|refine zB ?_|refine zK ?_|refine zZ ⟨_, rfl, ?_⟩)
  refine Tr.drawn ( zD tab_ok rfl rfl <| zD tab_ok rfl rfl <| zD tab_ok rfl rfl <| zD tab_ok rfl rfl <| DSq.evr tab_ok rfl (congrArg (fun n : Nat => int n) hml) <| zO rfl (fun q K hK => Sq.shift rfl 1#64 l.length rfl rfl (by omega) (zN hK)) <| DSq.evr tab_ok rfl (hw) <| DSq.call rfl (fun _ => rfl) (hFl) <| zD tab_ok rfl rfl <| zD tab_ok rfl rfl <| zD tab_ok rfl rfl <| zD tab_ok rfl rfl <| zD tab_ok rfl rfl <| DSq.nil _) mix_ok rfl ?_
  repeat' (first|refine zS ?_|refine zR ?_|refine zE tab_ok rfl rfl ?_|refine zN ?_|(refine zG rfl rfl (fun _ => ?_) fun _ => ?_)<;>refine zE tab_ok rfl rfl ?_|(refine zC rfl (fun _ => ?_) fun _ => ?_)<;>try (rename_i h; cases h; done)|refine zB ?_|refine zK ?_|refine zZ ⟨_, rfl, ?_⟩)
  refine Sq.callv rfl (hS) ?_
  repeat' (first|refine zS ?_|refine zR ?_|refine zE tab_ok rfl rfl ?_|refine zN ?_|(refine zG rfl rfl (fun _ => ?_) fun _ => ?_)<;>refine zE tab_ok rfl rfl ?_|(refine zC rfl (fun _ => ?_) fun _ => ?_)<;>try (rename_i h; cases h; done)|refine zB ?_|refine zK ?_|refine zZ ⟨_, rfl, ?_⟩)
  refine Sq.callv rfl (hSm) ?_
  repeat' (first|refine zS ?_|refine zR ?_|refine zE tab_ok rfl rfl ?_|refine zN ?_|(refine zG rfl rfl (fun _ => ?_) fun _ => ?_)<;>refine zE tab_ok rfl rfl ?_|(refine zC rfl (fun _ => ?_) fun _ => ?_)<;>try (rename_i h; cases h; done)|refine zB ?_|refine zK ?_|refine zZ ⟨_, rfl, ?_⟩)
  rfl
end Go.Lg.Tryz

set_option linter.unusedSimpArgs false
set_option linter.unusedVariables false
namespace Go.Lg.Tryz
open Go Go.Proofs Go.Proofs.YtikjlooifdgbaaaGreatDoor Go.ChangeShapes Go.WideShapes Go.ChangeAt Go.RowKit Go.Joins Go.Lg.Sem
def theLaid : List (String × DataW Unit) := Rows.planMakesRow.laid
theorem own : ownKnob Tryz.prog.godebug = none := by kernel_rfl
theorem laidOut : laidOutB Tryz.prog = true := by kernel_rfl
def firstCells : Array Value := match Go.Pinned.utf8First with
  | .agg l => (l.map fun | .lit (.int k n) => Value.int k n | _ => undef).toArray
  | _ => #[]
noncomputable def laidWorld (os : Os) : World :=
  let w0 := World.doorLaid Tryz.prog 72 os
  { w0 with heap := w0.heap.modify 2 fun
      | .cells _ t frozen => .cells firstCells t frozen
      | o => o }
set_option maxRecDepth 100000 in
theorem laidWorld_met (os : Os) (args : Array Value) : laidMetH Tryz.prog theLaid ((laidWorld os).forCall (fun _ _ => 0) ⟨#[], args, []⟩).memory :=
  laidMetH_of_parts3 (fuel := 8) (laidMet_of_run' 8 (by kernel_rfl) (by kernel_rfl)) (by kernel_rfl) (by kernel_rfl)
set_option maxRecDepth 100000 in
theorem laidWorld_shaped (os : Os) (args : Array Value) : ((laidWorld os).forCall (fun _ _ => 0) ⟨#[], args, []⟩).Shaped Tryz.prog :=
  World.shaped_of_RefB (by kernel_rfl) (by kernel_rfl)
theorem gw_of {W : World} (hs : W.ShapedOpen Tryz.prog) (h : laidMetH Tryz.prog theLaid W) : Gw W := by
  rw [MakeChecks.laidMetH_plain _ _ _ (by kernel_rfl)] at h
  have h2 : laidMet Tryz.prog (("internal/strconv.uint64pow10", Lib.tabData .u64 Lib.pow10Tab) :: theLaid.drop 3) W := h.tail.tail
  have ht := Lib.tabIs_of_head tab_at (t := 278) (e := 48) (n := 20) (by kernel_rfl) Tryz.underlying278 Tryz.underlying48 (by kernel_rfl) (by kernel_rfl) h2
  obtain ⟨m, hm⟩ := cell_of_shapedOpen_int (g := 4) (zero := #[.int .i64 0]) (t := 3) hs (of_decide_eq_true (by kernel_rfl)) (by kernel_rfl) rfl (by kernel_rfl) (by kernel_rfl) Tryz.underlying3
  have hbig : 8 ≤ W.heap.size := by
    have := ht
    unfold Lib.TabIs World.var? at this
    rw [tab_at, Option.bind_some] at this
    cases hb : W.heap[7]? with
    | none => rw [hb] at this; cases this
    | some o => have := (Array.getElem?_eq_some_iff.1 hb).1; omega
  have h3 : laidMet Tryz.prog (("math/bits.deBruijn64tab", Lib.tabData .u8 (Lib.deBruijn64tab.map Int.ofNat)) :: theLaid.drop 2) W := h.tail
  have hd := Lib.tabIs_of_head (g := 0) (t := 186) (e := 5) (n := 64) (by kernel_rfl) (by kernel_rfl) Tryz.underlying186 Tryz.underlying5 (by kernel_rfl) (by kernel_rfl) h3
  exact ⟨⟨m, hm⟩, ht, hbig, fun j hj => by
    have h4 := hd.cell (g := 0) (by kernel_rfl) j (by rw [List.length_map]; exact hj)
    rw [h4]
    congr 2
    simp only [List.getD_eq_getElem?_getD, List.getElem?_map, List.getElem?_eq_getElem hj, Option.map_some, Option.getD_some]; rfl⟩
theorem returns_both {H : Type} {enc : TypeId × Value → H} {a : Assume} {C : Checked} {os : Os} {f : FuncId} {fn : Func} {s : ChangeSpec} {conds : List PathCond} {apart fresh handsOn again : Bool} {X : World → Array Value → Prop}
    (hX : ∀ (w w' : World) (args : Array Value), w.heap = w'.heap → X w args → X w' args)
    (own : ownKnob C.prog.godebug = none) (started : os.Started) (noInit : C.prog.inits.idxOf? f = none) (hfn : C.prog.funcs[f]? = some fn)
    (witness : ∃ (w : World) (tape : Tape) (i : Input), w.os = os ∧ (w.forCall tape i).Shaped C.prog ∧ i.vars = [] ∧ Input.okWide C.prog (w.forCall tape i) .any w.heap.size f i ∧
      ((s.pre enc C.prog fn conds apart (w.forCall tape i).memory i.args ∧ X (w.forCall tape i).memory i.args) ∧ sizedMet enc C.prog fn (OpenSpec.ofChange s) apart (w.forCall tape i).memory i.args) ∧ a.holds C.prog (lone (Frame.enter C.prog f i.args .normal) [] (w.forCall tape i)))
    (contract : ∀ (W : World) (base : Nat) (args : Array Value) (ds gs : List (DataW H)) (before : List MemPlace),
      (∀ (j : Nat) t v, fn.params[j]? = some t → args[j]? = some v → Value.okWide C.prog W .any base t v) →
      DataW.Whole enc C.prog fn.params.toList s.vars apart W args.toList ds gs before →
      (DataW.weightsEach C.prog (fn.params.toList ++ s.plain.varTypes C.prog) (ds ++ gs)).all (· ≤ reachBytes) = true → X W args → W.ShapedOpen C.prog →
      Calls C.prog f args W fun e W' => ∃ v, e = .returned v ∧ s.post enc C.prog fn apart fresh handsOn again W args v W') :
    ReturnsInHanded a C os f .any (fun w args => (s.pre enc C.prog fn conds apart w args ∧ X w args) ∧ sizedMet enc C.prog fn (OpenSpec.ofChange s) apart w args) (s.post enc C.prog fn apart fresh handsOn again) := by
  refine returnsInHanded_of_calls own started noInit witness ?_
  intro w tape i _ hsh _ hok hpre hholds
  obtain ⟨_, _, _, fn', hfn', _, _, _, _, hval⟩ := hok
  obtain rfl := Option.some.inj (hfn'.symm.trans hfn)
  obtain ⟨⟨⟨ds, gs, before, hw, hc⟩, hx⟩, hz⟩ := hpre
  have hw' := DataW.Whole.of_heap (w' := w.forCall tape i) (by rfl) hw
  refine (contract (w.forCall tape i) w.heap.size i.args ds gs before hval hw' (hz.weights hw) (hX _ _ _ (by rfl) hx) hsh).mono fun e W' ⟨v, he, hp⟩ => ?_
  subst he
  exact ChangeSpec.post_blind hp
section
variable {H : Type} {enc : TypeId × Value → H} {W : World}
theorem stays {t : TypeId} (hr : (Tryz.prog).readableRec t = true) (hrow : t < (Tryz.prog).types.size) {W' : World} {v : Value} {d : DataW H} {p : List MemPlace} (h : DataW.Trod enc Tryz.prog W 0 (fun _ => true) true t v d p) (hb : Below W.heap.size W W') (hlt : ∀ x ∈ p, x.block < W.heap.size) :
    DataW.Trod enc Tryz.prog W' 0 (fun b => decide (b < W.heap.size)) true t v d p := hb.trod laidOut hr hrow h hlt
theorem opens_ver : Opens enc Tryz.prog W 58 (fun v : Ver => [.sc (.int .i64 v.a), .sc (.int .i64 v.b), .sc (.int .i64 v.c), .sc (.string v.p)]) :=
  (opens_struct Tryz.underlying58 (by kernel_rfl) (OpensF.cons rfl (k := 1) (by kernel_rfl) (opens_int Tryz.underlying3) (OpensF.cons rfl (k := 1) (by kernel_rfl) (opens_int Tryz.underlying3) (OpensF.cons rfl (k := 1) (by kernel_rfl) (opens_int Tryz.underlying3)
    (OpensF.cons rfl (k := 1) (by kernel_rfl) (opens_string Tryz.underlying9) OpensF.nil))))).map (fun p : Int × Int × Int × ByteArray × Unit => ⟨p.1, p.2.1, p.2.2.1, p.2.2.2.1⟩) (fun p => rfl)
theorem opens_comp : Opens enc Tryz.prog W 99 (fun c : Cmp => [.sc (.int .i64 c.op), .sc (.int .i64 c.v.a), .sc (.int .i64 c.v.b), .sc (.int .i64 c.v.c), .sc (.string c.v.p)]) :=
  (opens_struct Tryz.underlying99 (by kernel_rfl) (OpensF.cons rfl (k := 1) (by kernel_rfl) (opens_int Tryz.underlying3) (OpensF.cons rfl (k := 4) (by kernel_rfl) opens_ver OpensF.nil))).map (fun p : Int × Ver × Unit => ⟨p.1, p.2.1⟩) (fun p => rfl)
noncomputable instance : Inhabited Cmp := ⟨Cmp.zero⟩
theorem opens_comps : Opens enc Tryz.prog W 100 (fun l : List Cmp => [cmpsT l]) :=
  opens_slice Cmp.t (fun c => rfl) Tryz.underlying100 (fun c => by rw [show (Tryz.prog).cellsOf 99 = 5 by kernel_rfl]; rfl) (by rw [show (Tryz.prog).cellsOf 99 = 5 by kernel_rfl]; omega) opens_comp
theorem opens_rng : Opens enc Tryz.prog W 103 (fun r : Rng => [.ls (r.map cmpsT)]) :=
  (opens_struct Tryz.underlying103 (by kernel_rfl) (OpensF.cons rfl (k := 1) (by kernel_rfl) (opens_slice cmpsT (fun l => rfl) Tryz.underlying101 (fun c => by rw [show (Tryz.prog).cellsOf 100 = 1 by kernel_rfl]; rfl) (by rw [show (Tryz.prog).cellsOf 100 = 1 by kernel_rfl]; omega) opens_comps) OpensF.nil)).map
    (fun p : Rng × Unit => p.1) (fun p => rfl)
end
end Go.Lg.Tryz

set_option linter.unusedSimpArgs false
set_option linter.unusedVariables false
namespace Go.Lg.Tryz
open Go Go.Proofs Go.Proofs.YtikjlooifdgbaaaGreatDoor Go.ChangeShapes Go.WideShapes Go.ChangeAt Go.RowKit Go.Joins Go.Lg.Sem
section
variable {H : Type} {enc : TypeId × Value → H} {W : World}
noncomputable instance : Inhabited Nd := ⟨⟨0, []⟩⟩
noncomputable instance : Inhabited Rls := ⟨⟨Cmp.zero.v, 0, []⟩⟩
noncomputable instance : Inhabited Svc := ⟨⟨ByteArray.empty, []⟩⟩
theorem opens_nd : Opens enc Tryz.prog W 105 (fun n : Nd => [.sc (.int .i64 n.s), .ls (n.r.map cmpsT)]) :=
  (opens_struct Tryz.underlying105 (by kernel_rfl) (OpensF.cons rfl (k := 1) (by kernel_rfl) (opens_int Tryz.underlying3) (OpensF.cons rfl (k := 1) (by kernel_rfl) opens_rng OpensF.nil))).map (fun p : Int × Rng × Unit => ⟨p.1, p.2.1⟩) (fun p => rfl)
theorem opens_nds : Opens enc Tryz.prog W 59 (fun l : List Nd => [.ls (l.map ndT)]) :=
  opens_slice ndT (fun c => rfl) Tryz.underlying59 (fun c => by rw [show (Tryz.prog).cellsOf 105 = 2 by kernel_rfl]; rfl) (by rw [show (Tryz.prog).cellsOf 105 = 2 by kernel_rfl]; omega) opens_nd
theorem opens_rls : Opens enc Tryz.prog W 61 (fun r : Rls => [.sc (.int .i64 r.v.a), .sc (.int .i64 r.v.b), .sc (.int .i64 r.v.c), .sc (.string r.v.p), .sc (.int .i64 r.level), .ls (r.needs.map ndT)]) :=
  (opens_struct Tryz.underlying61 (by kernel_rfl) (OpensF.cons rfl (k := 4) (by kernel_rfl) opens_ver (OpensF.cons rfl (k := 1) (by kernel_rfl) (opens_int Tryz.underlying3) (OpensF.cons rfl (k := 1) (by kernel_rfl) opens_nds OpensF.nil)))).map (fun p : Ver × Int × List Nd × Unit => ⟨p.1, p.2.1, p.2.2.1⟩) (fun p => rfl)
theorem opens_rlss : Opens enc Tryz.prog W 62 (fun l : List Rls => [.ls (l.map rlsT)]) :=
  opens_slice rlsT (fun c => rfl) Tryz.underlying62 (fun c => by rw [show (Tryz.prog).cellsOf 61 = 6 by kernel_rfl]; rfl) (by rw [show (Tryz.prog).cellsOf 61 = 6 by kernel_rfl]; omega) opens_rls
theorem opens_svc : Opens enc Tryz.prog W 64 (fun s : Svc => [.sc (.string s.name), .ls (s.rels.map rlsT)]) :=
  (opens_struct Tryz.underlying64 (by kernel_rfl) (OpensF.cons rfl (k := 1) (by kernel_rfl) (opens_string Tryz.underlying9) (OpensF.cons rfl (k := 1) (by kernel_rfl) opens_rlss OpensF.nil))).map (fun p : ByteArray × List Rls × Unit => ⟨p.1, p.2.1⟩) (fun p => rfl)
theorem opens_cat : Opens enc Tryz.prog W 24 (fun c : Ctl => [.ls (c.map svcT)]) :=
  (opens_struct Tryz.underlying24 (by kernel_rfl) (OpensF.cons rfl (k := 1) (by kernel_rfl) (opens_slice svcT (fun c => rfl) Tryz.underlying22 (fun c => by rw [show (Tryz.prog).cellsOf 64 = 2 by kernel_rfl]; rfl) (by rw [show (Tryz.prog).cellsOf 64 = 2 by kernel_rfl]; omega) opens_svc) OpensF.nil)).map (fun p : Ctl × Unit => p.1) (fun p => rfl)
theorem opens_ints : Opens enc Tryz.prog W 25 (fun l : List Int => [.ls (l.map fun v => .sc (.int .i64 v))]) :=
  opens_slice (fun v : Int => T.sc (.int .i64 v)) (fun c => rfl) Tryz.underlying25 (fun c => by rw [show (Tryz.prog).cellsOf 3 = 1 by kernel_rfl]; rfl) (by rw [show (Tryz.prog).cellsOf 3 = 1 by kernel_rfl]; omega) (opens_int Tryz.underlying3)
end
end Go.Lg.Tryz
