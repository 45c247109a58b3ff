/- Words and laws that the theorem leans on (part 6). -/
import Derived.Test.YtikjlooifdgbaaaGreatDoorPf18926ee
import Derived.Test.YtikjlooifdgbaaaGreatDoorP964b764d
import Derived.Test.YtikjlooifdgbaaaGreatDoorP198cdb90
import Derived.Test.YtikjlooifdgbaaaGreatDoorPe842ea92
import Derived.Test.YtikjlooifdgbaaaGreatDoorP33f559f7
import Derived.Test.YtikjlooifdgbaaaGreatDoorRows
import Derived.Carry
import Derived.Lib.SmallJoins
import Derived.LaidMore
import Derived.PinnedBridge
import Derived.HandedShaped
import Derived.ProofKit
import Derived.OpenShut
import Derived.ShutString
import Derived.SizedLaws
import Derived.Stop.LaidErr
import Derived.Stop.Joined
import Derived.Shelf.Vars
import Derived.Lib.LaidTab
import Derived.MakeChecks
set_option linter.unusedVariables false
set_option linter.unusedSimpArgs false

set_option linter.unusedVariables false
set_option linter.unusedSimpArgs false
namespace Go.Lg.Tryz
open Go Go.Proofs Go.RowKit Go.Lib Go.Lg.Sem
def placeB (v f : Int) : Bool := decide (0 ≤ v) && decide (0 ≤ f) && decide (v ≤ 1048576) && decide (f ≤ 1048576)
theorem Place_ok (v f : Int) : Fn Tryz.prog Gw 36 [.tr (pT v f)] [] (· = bool (placeB v f)) := by
  refine Fn.of tab_ok Tryz.func36 rfl (by decide) (by simp [Tryz.f36]) rfl (fun κ v h => by cases h) Gw.below ?_
  repeat' (first | refine Tr.seq ?_ | refine Tr.region ?_ | refine Sq.ev tab_ok rfl rfl ?_ | refine Sq.nil ?_ | (refine Sq.guard rfl rfl (fun _ => ?_) (fun _ => ?_) <;> refine Sq.ev tab_ok rfl rfl ?_) | (refine Tr.cond rfl (fun _ => ?_) (fun _ => ?_) <;> try (rename_i h; cases h; done)) | refine Tr.block ?_ | refine Tr.skip ?_ | refine Tr.ret ⟨_, rfl, ?_⟩)
  all_goals simp_all [placeB]
  all_goals omega
theorem refStands_ok {c : Ctl} (hlv : LvOk c) (i v f : Int) : Fn Tryz.prog Gw 67 [.tr (ctlT c), int i, .tr (pT v f)] [] (· = bool (standsB c i v f)) := by
  have hP := Place_ok v f
  by_cases h1 : i < 0
  · have d1 : decide (i < 0) = true := decide_eq_true h1
    have : standsB c i v f = false := by unfold standsB; rw [decide_eq_false (by omega)]; rfl
    rw [this]
    refine Fn.of tab_ok Tryz.func67 rfl (by decide) (by simp [Tryz.f67]) rfl (fun κ v h => by cases h) Gw.below ?_
    repeat' (first | refine Tr.seq ?_ | refine Tr.region ?_ | refine Sq.ev tab_ok rfl rfl ?_ | refine Sq.nil ?_ | (refine Sq.guard rfl rfl (fun _ => ?_) (fun _ => ?_) <;> refine Sq.ev tab_ok rfl rfl ?_) | (refine Tr.cond rfl (fun _ => ?_) (fun _ => ?_) <;> try (rename_i h; cases h; done)) | refine Tr.block ?_ | refine Tr.skip ?_ | refine Tr.ret ⟨_, rfl, ?_⟩)
    refine Tr.drawn ( DSq.ev tab_ok rfl rfl <| DSq.evr tab_ok rfl (congrArg bool d1) <| DSq.ev tab_ok rfl rfl <| DSq.ev tab_ok rfl rfl <| DSq.ev tab_ok rfl rfl <| DSq.ev tab_ok rfl rfl <| DSq.ev tab_ok rfl rfl <| DSq.ev tab_ok rfl rfl <| DSq.ev tab_ok rfl rfl <| DSq.ev tab_ok rfl rfl <| DSq.ev tab_ok rfl rfl <| DSq.ev tab_ok rfl rfl <| DSq.ev tab_ok rfl rfl <| DSq.ev tab_ok rfl rfl <| DSq.ev tab_ok rfl rfl <| DSq.ev tab_ok rfl rfl <| DSq.ev tab_ok rfl rfl <| DSq.ev tab_ok rfl rfl <| DSq.ev tab_ok rfl rfl <| DSq.ev tab_ok rfl rfl <| DSq.ev tab_ok rfl rfl <| DSq.ev tab_ok rfl rfl <| DSq.ev tab_ok rfl rfl <| DSq.ev tab_ok rfl rfl <| DSq.ev tab_ok rfl rfl <| DSq.ev tab_ok rfl rfl <| DSq.nil _) mix_ok rfl ?_
    repeat' (first | refine Tr.seq ?_ | refine Tr.region ?_ | refine Sq.ev tab_ok rfl rfl ?_ | refine Sq.nil ?_ | (refine Sq.guard rfl rfl (fun _ => ?_) (fun _ => ?_) <;> refine Sq.ev tab_ok rfl rfl ?_) | (refine Tr.cond rfl (fun _ => ?_) (fun _ => ?_) <;> try (rename_i h; cases h; done)) | refine Tr.block ?_ | refine Tr.skip ?_ | refine Tr.ret ⟨_, rfl, ?_⟩)
    rfl
  have d1 : decide (i < 0) = false := decide_eq_false h1
  by_cases h2 : i ≥ ((c.map svcT).length : Int)
  · have d2 : decide (i ≥ ((c.map svcT).length : Int)) = true := decide_eq_true h2
    have : standsB c i v f = false := by
      apply stands_none
      unfold relAt
      rw [List.getElem?_eq_none (by rw [List.length_map] at h2; omega)]
    rw [this]
    refine Fn.of tab_ok Tryz.func67 rfl (by decide) (by simp [Tryz.f67]) rfl (fun κ v h => by cases h) Gw.below ?_
    repeat' (first | refine Tr.seq ?_ | refine Tr.region ?_ | refine Sq.ev tab_ok rfl rfl ?_ | refine Sq.nil ?_ | (refine Sq.guard rfl rfl (fun _ => ?_) (fun _ => ?_) <;> refine Sq.ev tab_ok rfl rfl ?_) | (refine Tr.cond rfl (fun _ => ?_) (fun _ => ?_) <;> try (rename_i h; cases h; done)) | refine Tr.block ?_ | refine Tr.skip ?_ | refine Tr.ret ⟨_, rfl, ?_⟩)
    refine Tr.drawn ( DSq.ev tab_ok rfl rfl <| DSq.evr tab_ok rfl (congrArg bool d1) <| DSq.ev tab_ok rfl rfl <| DSq.ev tab_ok rfl rfl <| DSq.ev tab_ok rfl rfl <| DSq.ev tab_ok rfl rfl <| DSq.ev tab_ok rfl rfl <| DSq.evr tab_ok rfl (congrArg bool d2) <| DSq.ev tab_ok rfl rfl <| DSq.ev tab_ok rfl rfl <| DSq.ev tab_ok rfl rfl <| DSq.ev tab_ok rfl rfl <| DSq.ev tab_ok rfl rfl <| DSq.ev tab_ok rfl rfl <| DSq.ev tab_ok rfl rfl <| DSq.ev tab_ok rfl rfl <| DSq.ev tab_ok rfl rfl <| DSq.ev tab_ok rfl rfl <| DSq.ev tab_ok rfl rfl <| DSq.ev tab_ok rfl rfl <| DSq.ev tab_ok rfl rfl <| DSq.ev tab_ok rfl rfl <| DSq.ev tab_ok rfl rfl <| DSq.ev tab_ok rfl rfl <| DSq.ev tab_ok rfl rfl <| DSq.ev tab_ok rfl rfl <| DSq.nil _) mix_ok rfl ?_
    repeat' (first | refine Tr.seq ?_ | refine Tr.region ?_ | refine Sq.ev tab_ok rfl rfl ?_ | refine Sq.nil ?_ | (refine Sq.guard rfl rfl (fun _ => ?_) (fun _ => ?_) <;> refine Sq.ev tab_ok rfl rfl ?_) | (refine Tr.cond rfl (fun _ => ?_) (fun _ => ?_) <;> try (rename_i h; cases h; done)) | refine Tr.block ?_ | refine Tr.skip ?_ | refine Tr.ret ⟨_, rfl, ?_⟩)
    rfl
  have d2 : decide (i ≥ ((c.map svcT).length : Int)) = false := decide_eq_false h2
  rw [List.length_map] at h2
  obtain ⟨s, hs⟩ : ∃ s, c[i.toNat]? = some s := ⟨_, List.getElem?_eq_getElem (by omega)⟩
  have hse : (c.map svcT)[i.toNat]? = some (svcT s) := by simp [hs]
  obtain ⟨hs12, hsl⟩ := hlv s (List.mem_of_getElem? hs)
  cases hp : placeB v f
  · rw [hp] at hP
    have : standsB c i v f = false := by
      rw [← Bool.not_eq_true]
      intro h
      unfold standsB at h
      rw [Bool.and_eq_true, Bool.and_eq_true, decide_eq_true_eq, decide_eq_true_eq] at h
      obtain ⟨⟨_, hf0⟩, h⟩ := h
      cases hr : relAt c i v with
      | none => rw [hr] at h; cases h
      | some r =>
        rw [hr] at h
        simp only [Bool.and_eq_true, decide_eq_true_eq] at h
        unfold relAt at hr
        rw [hs] at hr
        simp only at hr
        split at hr
        · have hvl := (List.getElem?_eq_some_iff.1 hr).1
          obtain ⟨l0, l1⟩ := hsl r (List.mem_of_getElem? hr)
          have : placeB v f = true := by unfold placeB; simp only [Bool.and_eq_true, decide_eq_true_eq]; omega
          rw [this] at hp; cases hp
        · cases hr
    rw [this]
    refine Fn.of tab_ok Tryz.func67 rfl (by decide) (by simp [Tryz.f67]) rfl (fun κ v h => by cases h) Gw.below ?_
    repeat' (first | refine Tr.seq ?_ | refine Tr.region ?_ | refine Sq.ev tab_ok rfl rfl ?_ | refine Sq.nil ?_ | (refine Sq.guard rfl rfl (fun _ => ?_) (fun _ => ?_) <;> refine Sq.ev tab_ok rfl rfl ?_) | (refine Tr.cond rfl (fun _ => ?_) (fun _ => ?_) <;> try (rename_i h; cases h; done)) | refine Tr.block ?_ | refine Tr.skip ?_ | refine Tr.ret ⟨_, rfl, ?_⟩)
    refine Tr.drawn ( DSq.ev tab_ok rfl rfl <| DSq.evr tab_ok rfl (congrArg bool d1) <| DSq.ev tab_ok rfl rfl <| DSq.ev tab_ok rfl rfl <| DSq.ev tab_ok rfl rfl <| DSq.ev tab_ok rfl rfl <| DSq.ev tab_ok rfl rfl <| DSq.evr tab_ok rfl (congrArg bool d2) <| DSq.ev tab_ok rfl rfl <| DSq.ev tab_ok rfl rfl <| DSq.ev tab_ok rfl rfl <| DSq.call rfl (fun _ => rfl) (hP) <| DSq.ev tab_ok rfl rfl <| DSq.ev tab_ok rfl rfl <| DSq.ev tab_ok rfl rfl <| DSq.ev tab_ok rfl rfl <| DSq.ev tab_ok rfl rfl <| DSq.ev tab_ok rfl rfl <| DSq.ev tab_ok rfl rfl <| DSq.ev tab_ok rfl rfl <| DSq.ev tab_ok rfl rfl <| DSq.ev tab_ok rfl rfl <| DSq.ev tab_ok rfl rfl <| DSq.ev tab_ok rfl rfl <| DSq.ev tab_ok rfl rfl <| DSq.ev tab_ok rfl rfl <| DSq.nil _) mix_ok rfl ?_
    repeat' (first | refine Tr.seq ?_ | refine Tr.region ?_ | refine Sq.ev tab_ok rfl rfl ?_ | refine Sq.nil ?_ | (refine Sq.guard rfl rfl (fun _ => ?_) (fun _ => ?_) <;> refine Sq.ev tab_ok rfl rfl ?_) | (refine Tr.cond rfl (fun _ => ?_) (fun _ => ?_) <;> try (rename_i h; cases h; done)) | refine Tr.block ?_ | refine Tr.skip ?_ | refine Tr.ret ⟨_, rfl, ?_⟩)
    rfl
  rw [hp] at hP
  unfold placeB at hp
  simp only [Bool.and_eq_true, decide_eq_true_eq] at hp
  by_cases h3 : v ≥ ((s.rels.map rlsT).length : Int)
  · have d3 : decide (v ≥ ((s.rels.map rlsT).length : Int)) = true := decide_eq_true h3
    have : standsB c i v f = false := by
      apply stands_none
      unfold relAt
      rw [hs]
      simp only
      rw [if_pos (by omega), List.getElem?_eq_none (by rw [List.length_map] at h3; omega)]
    rw [this]
    refine Fn.of tab_ok Tryz.func67 rfl (by decide) (by simp [Tryz.f67]) rfl (fun κ v h => by cases h) Gw.below ?_
    repeat' (first | refine Tr.seq ?_ | refine Tr.region ?_ | refine Sq.ev tab_ok rfl rfl ?_ | refine Sq.nil ?_ | (refine Sq.guard rfl rfl (fun _ => ?_) (fun _ => ?_) <;> refine Sq.ev tab_ok rfl rfl ?_) | (refine Tr.cond rfl (fun _ => ?_) (fun _ => ?_) <;> try (rename_i h; cases h; done)) | refine Tr.block ?_ | refine Tr.skip ?_ | refine Tr.ret ⟨_, rfl, ?_⟩)
    refine Tr.drawn ( DSq.ev tab_ok rfl rfl <| DSq.evr tab_ok rfl (congrArg bool d1) <| DSq.ev tab_ok rfl rfl <| DSq.ev tab_ok rfl rfl <| DSq.ev tab_ok rfl rfl <| DSq.ev tab_ok rfl rfl <| DSq.ev tab_ok rfl rfl <| DSq.evr tab_ok rfl (congrArg bool d2) <| DSq.ev tab_ok rfl rfl <| DSq.ev tab_ok rfl rfl <| DSq.ev tab_ok rfl rfl <| DSq.call rfl (fun _ => rfl) (hP) <| DSq.ev tab_ok rfl rfl <| DSq.ev tab_ok rfl rfl <| DSq.ev tab_ok rfl rfl <| DSq.ev tab_ok rfl rfl <| DSq.ev tab_ok rfl rfl <| DSq.ev tab_ok rfl rfl <| DSq.ev tab_ok rfl rfl <| DSq.ev tab_ok rfl rfl <| DSq.one rfl (fun q K hK => Sq.index (x := svcT s) tab_ok rfl (by omega) (hse) rfl (Sq.nil hK)) <| DSq.ev tab_ok rfl rfl <| DSq.ev tab_ok rfl rfl <| DSq.ev tab_ok rfl rfl <| DSq.evr tab_ok rfl (congrArg bool d3) <| DSq.ev tab_ok rfl rfl <| DSq.nil _) mix_ok rfl ?_
    repeat' (first | refine Tr.seq ?_ | refine Tr.region ?_ | refine Sq.ev tab_ok rfl rfl ?_ | refine Sq.nil ?_ | (refine Sq.guard rfl rfl (fun _ => ?_) (fun _ => ?_) <;> refine Sq.ev tab_ok rfl rfl ?_) | (refine Tr.cond rfl (fun _ => ?_) (fun _ => ?_) <;> try (rename_i h; cases h; done)) | refine Tr.block ?_ | refine Tr.skip ?_ | refine Tr.ret ⟨_, rfl, ?_⟩)
    rfl
  have d3 : decide (v ≥ ((s.rels.map rlsT).length : Int)) = false := decide_eq_false h3
  rw [List.length_map] at h3
  obtain ⟨r, hr⟩ : ∃ s', s.rels[v.toNat]? = some s' := ⟨_, List.getElem?_eq_getElem (by omega)⟩
  have hre : (s.rels.map rlsT)[v.toNat]? = some (rlsT r) := by simp [hr]
  obtain ⟨l0, l1⟩ := hsl r (List.mem_of_getElem? hr)
  have hrel : relAt c i v = some r := by unfold relAt; rw [hs]; simp only; rw [if_pos (by omega), hr]
  have hst : standsB c i v f = (decide (-1 ≤ f - 2 * r.level) && decide (f - 2 * r.level ≤ 1)) := by
    unfold standsB; rw [hrel, decide_eq_true (by omega), decide_eq_true (by omega)]; rfl
  rw [hst]
  refine Fn.of tab_ok Tryz.func67 rfl (by decide) (by simp [Tryz.f67]) rfl (fun κ v h => by cases h) Gw.below ?_
  repeat' (first | refine Tr.seq ?_ | refine Tr.region ?_ | refine Sq.ev tab_ok rfl rfl ?_ | refine Sq.nil ?_ | (refine Sq.guard rfl rfl (fun _ => ?_) (fun _ => ?_) <;> refine Sq.ev tab_ok rfl rfl ?_) | (refine Tr.cond rfl (fun _ => ?_) (fun _ => ?_) <;> try (rename_i h; cases h; done)) | refine Tr.block ?_ | refine Tr.skip ?_ | refine Tr.ret ⟨_, rfl, ?_⟩)
  refine Tr.drawn ( DSq.ev tab_ok rfl rfl <| DSq.evr tab_ok rfl (congrArg bool d1) <| DSq.ev tab_ok rfl rfl <| DSq.ev tab_ok rfl rfl <| DSq.ev tab_ok rfl rfl <| DSq.ev tab_ok rfl rfl <| DSq.ev tab_ok rfl rfl <| DSq.evr tab_ok rfl (congrArg bool d2) <| DSq.ev tab_ok rfl rfl <| DSq.ev tab_ok rfl rfl <| DSq.ev tab_ok rfl rfl <| DSq.call rfl (fun _ => rfl) (hP) <| DSq.ev tab_ok rfl rfl <| DSq.ev tab_ok rfl rfl <| DSq.ev tab_ok rfl rfl <| DSq.ev tab_ok rfl rfl <| DSq.ev tab_ok rfl rfl <| DSq.ev tab_ok rfl rfl <| DSq.ev tab_ok rfl rfl <| DSq.ev tab_ok rfl rfl <| DSq.one rfl (fun q K hK => Sq.index (x := svcT s) tab_ok rfl (by omega) (hse) rfl (Sq.nil hK)) <| DSq.ev tab_ok rfl rfl <| DSq.ev tab_ok rfl rfl <| DSq.ev tab_ok rfl rfl <| DSq.evr tab_ok rfl (congrArg bool d3) <| DSq.ev tab_ok rfl rfl <| DSq.nil _) mix_ok rfl ?_
  repeat' (first | refine Tr.seq ?_ | refine Tr.region ?_ | refine Sq.ev tab_ok rfl rfl ?_ | refine Sq.nil ?_ | (refine Sq.guard rfl rfl (fun _ => ?_) (fun _ => ?_) <;> refine Sq.ev tab_ok rfl rfl ?_) | (refine Tr.cond rfl (fun _ => ?_) (fun _ => ?_) <;> try (rename_i h; cases h; done)) | refine Tr.block ?_ | refine Tr.skip ?_ | refine Tr.ret ⟨_, rfl, ?_⟩)
  refine Tr.drawn ( DSq.ev tab_ok rfl rfl <| DSq.ev tab_ok rfl rfl <| DSq.ev tab_ok rfl rfl <| DSq.ev tab_ok rfl rfl <| DSq.ev tab_ok rfl rfl <| DSq.one rfl (fun q K hK => Sq.index (x := svcT s) tab_ok rfl (by omega) (hse) rfl (Sq.nil hK)) <| DSq.ev tab_ok rfl rfl <| DSq.ev tab_ok rfl rfl <| DSq.ev tab_ok rfl rfl <| DSq.ev tab_ok rfl rfl <| DSq.one rfl (fun q K hK => Sq.index (x := rlsT r) tab_ok rfl (by omega) (hre) rfl (Sq.nil hK)) <| DSq.ev tab_ok rfl rfl <| DSq.ev tab_ok rfl rfl <| DSq.evr tab_ok rfl (congrArg int (Go.IntWalk.i64_in (2 * r.level) ⟨by omega, by omega⟩)) <| DSq.evr tab_ok rfl (congrArg int (Go.IntWalk.i64_in (f - 2 * r.level) ⟨by omega, by omega⟩)) <| DSq.ev tab_ok rfl rfl <| DSq.nil _) mix_ok rfl ?_
  generalize f - 2 * r.level = d at *
  repeat' (first | refine Tr.seq ?_ | refine Tr.region ?_ | refine Sq.ev tab_ok rfl rfl ?_ | refine Sq.nil ?_ | (refine Sq.guard rfl rfl (fun _ => ?_) (fun _ => ?_) <;> refine Sq.ev tab_ok rfl rfl ?_) | (refine Tr.cond rfl (fun _ => ?_) (fun _ => ?_) <;> try (rename_i h; cases h; done)) | refine Tr.block ?_ | refine Tr.skip ?_ | refine Tr.ret ⟨_, rfl, ?_⟩)
  all_goals
    show bool _ = bool _
    congr 3
    rw [Bool.eq_iff_iff]
    simp_all
    try omega
abbrev rPl (p : Pl) : T := pT p.v p.f
theorem refGood_ok {c : Ctl} (h : Ctl.ok c) (hlv : LvOk c) (hc : c.length ≤ 1000000) (l : List Pl) :
    Fn Tryz.prog Gw 28 [.tr (ctlT c), .tr (.ls (l.map rPl))] [] (· = bool (goodB c l)) := by
  by_cases hlc : l.length ≠ c.length
  · have : goodB c l = false := by unfold goodB; rw [decide_eq_false hlc]; rfl
    rw [this]
    refine Fn.of tab_ok Tryz.func28 rfl (by decide) (by simp [Tryz.f28]) rfl (fun κ v h => by cases h) Gw.below ?_
    repeat' (first | refine Tr.seq ?_ | refine Tr.region ?_ | refine Sq.ev tab_ok rfl rfl ?_ | refine Sq.nil ?_ | (refine Sq.guard rfl rfl (fun _ => ?_) (fun _ => ?_) <;> refine Sq.ev tab_ok rfl rfl ?_) | (refine Tr.cond rfl (fun _ => ?_) (fun _ => ?_) <;> try (rename_i h; cases h; done)) | refine Tr.block ?_ | refine Tr.skip ?_ | refine Tr.ret ⟨_, rfl, ?_⟩)
    · rfl
    · rename_i h; exfalso
      have h : (((l.map rPl).length : Int) != ((c.map svcT).length : Int)) = false := h
      rw [List.length_map, List.length_map] at h
      simp at h; omega
  have hlc : l.length = c.length := Classical.not_not.1 hlc
  have hG : goodB c l = (List.range l.length).all (goodAt c l) := by unfold goodB; rw [decide_eq_true hlc]; rfl
  refine Fn.of tab_ok Tryz.func28 rfl (by decide) (by simp [Tryz.f28]) rfl (fun κ v h => by cases h) Gw.below ?_
  repeat' (first | refine Tr.seq ?_ | refine Tr.region ?_ | refine Sq.ev tab_ok rfl rfl ?_ | refine Sq.nil ?_ | (refine Sq.guard rfl rfl (fun _ => ?_) (fun _ => ?_) <;> refine Sq.ev tab_ok rfl rfl ?_) | (refine Tr.cond rfl (fun _ => ?_) (fun _ => ?_) <;> try (rename_i h; cases h; done)) | refine Tr.block ?_ | refine Tr.skip ?_ | refine Tr.ret ⟨_, rfl, ?_⟩)
  · rename_i h; exfalso
    have h : (((l.map rPl).length : Int) != ((c.map svcT).length : Int)) = true := h
    rw [List.length_map, List.length_map] at h
    simp at h; omega
  refine Tr.loopS (fun i : Nat => [(.s 1, .tr (.ls (l.map rPl))), (.s 2, .ptr (.l 2) 0), (.l 2, .blk 29 [.tr (.ls (c.map svcT))]), (.s 5, int i)]) (fun i => l.length - i)
    (fun i => i ≤ l.length ∧ ∀ k p, k < i → l[k]? = some p → standsB c k p.v p.f = true) 0 ⟨by omega, by intro k p hk; omega⟩ (Sub.app (l := [_, _, _, _]) (H := []) ⟨rfl, rfl, rfl, rfl, trivial⟩ (fun κ v h => nomatch h)) ?_
  rintro i ⟨hi, hp⟩
  repeat' (first | refine Tr.seq ?_ | refine Tr.region ?_ | refine Sq.ev tab_ok rfl rfl ?_ | refine Sq.nil ?_ | (refine Sq.guard rfl rfl (fun _ => ?_) (fun _ => ?_) <;> refine Sq.ev tab_ok rfl rfl ?_) | (refine Tr.cond rfl (fun _ => ?_) (fun _ => ?_) <;> try (rename_i h; cases h; done)) | refine Tr.block ?_ | refine Tr.skip ?_ | refine Tr.ret ⟨_, rfl, ?_⟩)
  · rename_i h2
    have hlt : i < l.length := by simp only [List.length_map, decide_eq_true_eq] at h2; omega
    obtain ⟨p, hpi⟩ : ∃ p, l[i]? = some p := ⟨_, List.getElem?_eq_getElem hlt⟩
    have hpe : (l.map rPl)[((i : Nat) : Int).toNat]? = some (rPl p) := by simp [hpi]
    have hS := refStands_ok hlv (i : Int) p.v p.f
    cases hst : standsB c i p.v p.f
    · rw [hst] at hS
      refine Tr.drawn ( DSq.ev tab_ok rfl rfl <| DSq.ev tab_ok rfl rfl <| DSq.ev tab_ok rfl rfl <| DSq.ev tab_ok rfl rfl <| DSq.one rfl (fun q K hK => Sq.index (x := rPl p) tab_ok rfl (by omega) (hpe) rfl (Sq.nil hK)) <| DSq.ev tab_ok rfl rfl <| DSq.call rfl (fun _ => rfl) (hS) <| DSq.ev tab_ok rfl rfl <| DSq.nil _) mix_ok rfl ?_
      repeat' (first | refine Tr.seq ?_ | refine Tr.region ?_ | refine Sq.ev tab_ok rfl rfl ?_ | refine Sq.nil ?_ | (refine Sq.guard rfl rfl (fun _ => ?_) (fun _ => ?_) <;> refine Sq.ev tab_ok rfl rfl ?_) | (refine Tr.cond rfl (fun _ => ?_) (fun _ => ?_) <;> try (rename_i h; cases h; done)) | refine Tr.block ?_ | refine Tr.skip ?_ | refine Tr.ret ⟨_, rfl, ?_⟩)
      have : goodB c l = false := by
        rw [hG, ← Bool.not_eq_true, List.all_eq_true]
        intro hh
        have := hh i (List.mem_range.2 hlt)
        unfold goodAt at this
        rw [hpi] at this
        simp only at this
        rw [hst] at this; cases this
      rw [this]
    · rw [hst] at hS
      refine Tr.drawn ( DSq.ev tab_ok rfl rfl <| DSq.ev tab_ok rfl rfl <| DSq.ev tab_ok rfl rfl <| DSq.ev tab_ok rfl rfl <| DSq.one rfl (fun q K hK => Sq.index (x := rPl p) tab_ok rfl (by omega) (hpe) rfl (Sq.nil hK)) <| DSq.ev tab_ok rfl rfl <| DSq.call rfl (fun _ => rfl) (hS) <| DSq.ev tab_ok rfl rfl <| DSq.nil _) mix_ok rfl ?_
      repeat' (first | refine Tr.seq ?_ | refine Tr.region ?_ | refine Sq.ev tab_ok rfl rfl ?_ | refine Sq.nil ?_ | (refine Sq.guard rfl rfl (fun _ => ?_) (fun _ => ?_) <;> refine Sq.ev tab_ok rfl rfl ?_) | (refine Tr.cond rfl (fun _ => ?_) (fun _ => ?_) <;> try (rename_i h; cases h; done)) | refine Tr.block ?_ | refine Tr.skip ?_ | refine Tr.ret ⟨_, rfl, ?_⟩)
      exact ⟨i + 1, ⟨by omega, fun k q hk hq => by
        rcases Nat.lt_succ_iff_lt_or_eq.1 hk with h4 | rfl
        · exact hp k q h4 hq
        · rw [hpi] at hq; obtain rfl := Option.some.inj hq; exact hst⟩, by omega, Sub.app (l := [_, _, _, _]) (H := []) ⟨rfl, rfl, rfl, congrArg some (wrapz (by omega) (by omega) (by omega)), trivial⟩ (fun κ v h => nomatch h)⟩
  rename_i h2
  have : i = l.length := by simp only [List.length_map, decide_eq_false_iff_not] at h2; omega
  subst this
  refine Tr.exit ?_
  repeat' (first | refine Tr.seq ?_ | refine Tr.region ?_ | refine Sq.ev tab_ok rfl rfl ?_ | refine Sq.nil ?_ | (refine Sq.guard rfl rfl (fun _ => ?_) (fun _ => ?_) <;> refine Sq.ev tab_ok rfl rfl ?_) | (refine Tr.cond rfl (fun _ => ?_) (fun _ => ?_) <;> try (rename_i h; cases h; done)) | refine Tr.block ?_ | refine Tr.skip ?_ | refine Tr.ret ⟨_, rfl, ?_⟩)
  refine Tr.loopS (fun i : Nat => [(.s 1, .tr (.ls (l.map rPl))), (.s 2, .ptr (.l 2) 0), (.l 2, .blk 29 [.tr (.ls (c.map svcT))]), (.s 6, int i)]) (fun i => l.length - i)
    (fun i => i ≤ l.length ∧ ∀ k p j q, k < i → l[k]? = some p → j < k → l[j]? = some q → fitsB c k p.v j q.v = true) 0 ⟨by omega, by intro k p j q hk; omega⟩ (Sub.app (l := [_, _, _, _]) (H := []) ⟨rfl, rfl, rfl, rfl, trivial⟩ (fun κ v h => nomatch h)) ?_
  rintro i ⟨hi, hq⟩
  repeat' (first | refine Tr.seq ?_ | refine Tr.region ?_ | refine Sq.ev tab_ok rfl rfl ?_ | refine Sq.nil ?_ | (refine Sq.guard rfl rfl (fun _ => ?_) (fun _ => ?_) <;> refine Sq.ev tab_ok rfl rfl ?_) | (refine Tr.cond rfl (fun _ => ?_) (fun _ => ?_) <;> try (rename_i h; cases h; done)) | refine Tr.block ?_ | refine Tr.skip ?_ | refine Tr.ret ⟨_, rfl, ?_⟩)
  · rename_i h3
    have hlt : i < l.length := by simp only [List.length_map, decide_eq_true_eq] at h3; omega
    obtain ⟨p, hpi⟩ : ∃ p, l[i]? = some p := ⟨_, List.getElem?_eq_getElem hlt⟩
    have hpe : (l.map rPl)[((i : Nat) : Int).toNat]? = some (rPl p) := by simp [hpi]
    refine Tr.loopS (fun j : Nat => [(.s 1, .tr (.ls (l.map rPl))), (.s 2, .ptr (.l 2) 0), (.l 2, .blk 29 [.tr (.ls (c.map svcT))]), (.s 6, int i), (.s 7, int j)]) (fun j => i - j)
      (fun j => j ≤ i ∧ ∀ k q, k < j → l[k]? = some q → fitsB c i p.v k q.v = true) 0 ⟨by omega, by intro k q hk; omega⟩ (Sub.app (l := [_, _, _, _, _]) (H := []) ⟨rfl, rfl, rfl, rfl, rfl, trivial⟩ (fun κ v h => nomatch h)) ?_
    rintro j ⟨hj, hr⟩
    repeat' (first | refine Tr.seq ?_ | refine Tr.region ?_ | refine Sq.ev tab_ok rfl rfl ?_ | refine Sq.nil ?_ | (refine Sq.guard rfl rfl (fun _ => ?_) (fun _ => ?_) <;> refine Sq.ev tab_ok rfl rfl ?_) | (refine Tr.cond rfl (fun _ => ?_) (fun _ => ?_) <;> try (rename_i h; cases h; done)) | refine Tr.block ?_ | refine Tr.skip ?_ | refine Tr.ret ⟨_, rfl, ?_⟩)
    · rename_i h4
      have hj2 : j < i := by have := of_decide_eq_true h4; omega
      obtain ⟨u, hqj⟩ : ∃ u, l[j]? = some u := ⟨_, List.getElem?_eq_getElem (by omega)⟩
      have hqe : (l.map rPl)[((j : Nat) : Int).toNat]? = some (rPl u) := by simp [hqj]
      have hF := refFits_ok h (i : Int) p.v (j : Int) u.v
      cases hb : fitsB c i p.v j u.v
      · rw [hb] at hF
        refine Tr.drawn ( DSq.ev tab_ok rfl rfl <| DSq.ev tab_ok rfl rfl <| DSq.ev tab_ok rfl rfl <| DSq.ev tab_ok rfl rfl <| DSq.one rfl (fun q K hK => Sq.index (x := rPl p) tab_ok rfl (by omega) (hpe) rfl (Sq.nil hK)) <| DSq.ev tab_ok rfl rfl <| DSq.ev tab_ok rfl rfl <| DSq.ev tab_ok rfl rfl <| DSq.ev tab_ok rfl rfl <| DSq.ev tab_ok rfl rfl <| DSq.one rfl (fun q K hK => Sq.index (x := rPl u) tab_ok rfl (by omega) (hqe) rfl (Sq.nil hK)) <| DSq.ev tab_ok rfl rfl <| DSq.ev tab_ok rfl rfl <| DSq.call rfl (fun _ => rfl) (hF) <| DSq.ev tab_ok rfl rfl <| DSq.nil _) mix_ok rfl ?_
        repeat' (first | refine Tr.seq ?_ | refine Tr.region ?_ | refine Sq.ev tab_ok rfl rfl ?_ | refine Sq.nil ?_ | (refine Sq.guard rfl rfl (fun _ => ?_) (fun _ => ?_) <;> refine Sq.ev tab_ok rfl rfl ?_) | (refine Tr.cond rfl (fun _ => ?_) (fun _ => ?_) <;> try (rename_i h; cases h; done)) | refine Tr.block ?_ | refine Tr.skip ?_ | refine Tr.ret ⟨_, rfl, ?_⟩)
        have : goodB c l = false := by
          rw [hG, ← Bool.not_eq_true, List.all_eq_true]
          intro hh
          have := hh i (List.mem_range.2 hlt)
          unfold goodAt at this
          rw [hpi] at this
          simp only [Bool.and_eq_true, List.all_eq_true] at this
          have := this.2 j (List.mem_range.2 hj2)
          rw [hqj] at this
          simp only at this
          rw [hb] at this; cases this
        rw [this]
      · rw [hb] at hF
        refine Tr.drawn ( DSq.ev tab_ok rfl rfl <| DSq.ev tab_ok rfl rfl <| DSq.ev tab_ok rfl rfl <| DSq.ev tab_ok rfl rfl <| DSq.one rfl (fun q K hK => Sq.index (x := rPl p) tab_ok rfl (by omega) (hpe) rfl (Sq.nil hK)) <| DSq.ev tab_ok rfl rfl <| DSq.ev tab_ok rfl rfl <| DSq.ev tab_ok rfl rfl <| DSq.ev tab_ok rfl rfl <| DSq.ev tab_ok rfl rfl <| DSq.one rfl (fun q K hK => Sq.index (x := rPl u) tab_ok rfl (by omega) (hqe) rfl (Sq.nil hK)) <| DSq.ev tab_ok rfl rfl <| DSq.ev tab_ok rfl rfl <| DSq.call rfl (fun _ => rfl) (hF) <| DSq.ev tab_ok rfl rfl <| DSq.nil _) mix_ok rfl ?_
        repeat' (first | refine Tr.seq ?_ | refine Tr.region ?_ | refine Sq.ev tab_ok rfl rfl ?_ | refine Sq.nil ?_ | (refine Sq.guard rfl rfl (fun _ => ?_) (fun _ => ?_) <;> refine Sq.ev tab_ok rfl rfl ?_) | (refine Tr.cond rfl (fun _ => ?_) (fun _ => ?_) <;> try (rename_i h; cases h; done)) | refine Tr.block ?_ | refine Tr.skip ?_ | refine Tr.ret ⟨_, rfl, ?_⟩)
        exact ⟨j + 1, ⟨by omega, fun k q' hk hq' => by
          rcases Nat.lt_succ_iff_lt_or_eq.1 hk with h4 | rfl
          · exact hr k q' h4 hq'
          · rw [hqj] at hq'; obtain rfl := Option.some.inj hq'; exact hb⟩, by omega, Sub.app (l := [_, _, _, _, _]) (H := []) ⟨rfl, rfl, rfl, rfl, congrArg some (wrapz (by omega) (by omega) (by omega)), trivial⟩ (fun κ v h => nomatch h)⟩
    · rename_i h4
      have : j = i := by have := of_decide_eq_false h4; omega
      subst this
      refine Tr.exit ?_
      repeat' (first | refine Tr.seq ?_ | refine Tr.region ?_ | refine Sq.ev tab_ok rfl rfl ?_ | refine Sq.nil ?_ | (refine Sq.guard rfl rfl (fun _ => ?_) (fun _ => ?_) <;> refine Sq.ev tab_ok rfl rfl ?_) | (refine Tr.cond rfl (fun _ => ?_) (fun _ => ?_) <;> try (rename_i h; cases h; done)) | refine Tr.block ?_ | refine Tr.skip ?_ | refine Tr.ret ⟨_, rfl, ?_⟩)
      exact ⟨j + 1, ⟨by omega, fun k p' j' q' hk hp' hj' hq' => by
        rcases Nat.lt_succ_iff_lt_or_eq.1 hk with h4 | rfl
        · exact hq k p' j' q' h4 hp' hj' hq'
        · rw [hpi] at hp'; obtain rfl := Option.some.inj hp'; exact hr j' q' hj' hq'⟩, by omega, Sub.app (l := [_, _, _, _]) (H := []) ⟨rfl, rfl, rfl, congrArg some (wrapz (by omega) (by omega) (by omega)), trivial⟩ (fun κ v h => nomatch h)⟩
  · rename_i h3
    have : i = l.length := by simp only [List.length_map, decide_eq_false_iff_not] at h3; omega
    subst this
    refine Tr.exit ?_
    repeat' (first | refine Tr.seq ?_ | refine Tr.region ?_ | refine Sq.ev tab_ok rfl rfl ?_ | refine Sq.nil ?_ | (refine Sq.guard rfl rfl (fun _ => ?_) (fun _ => ?_) <;> refine Sq.ev tab_ok rfl rfl ?_) | (refine Tr.cond rfl (fun _ => ?_) (fun _ => ?_) <;> try (rename_i h; cases h; done)) | refine Tr.block ?_ | refine Tr.skip ?_ | refine Tr.ret ⟨_, rfl, ?_⟩)
    have : goodB c l = true := by
      rw [hG, List.all_eq_true]
      intro k hk
      have hk := List.mem_range.1 hk
      obtain ⟨p, hpk⟩ : ∃ p, l[k]? = some p := ⟨_, List.getElem?_eq_getElem hk⟩
      unfold goodAt
      rw [hpk]
      simp only [Bool.and_eq_true, List.all_eq_true]
      refine ⟨hp k p hk hpk, fun j hj => ?_⟩
      have hj := List.mem_range.1 hj
      obtain ⟨q, hqj⟩ : ∃ p, l[j]? = some p := ⟨_, List.getElem?_eq_getElem (by omega)⟩
      rw [hqj]
      exact hq k p j q hk hpk hj hqj
    rw [this]
end Go.Lg.Tryz

set_option linter.unusedVariables false
set_option linter.unusedSimpArgs false
namespace Go.Lg.Tryz
open Go Go.Proofs Go.RowKit Go.Lib Go.Lg.Sem
theorem Released_ok {c : Ctl} (hc : c.length ≤ 1000000) (vs : List Int) : Fn Tryz.prog Gw 30 [.tr (ctlT c), .tr (.ls (vs.map intT))] [] (· = bool (rightV c vs)) := by
  by_cases hlc : vs.length ≠ c.length
  · have : rightV c vs = false := by unfold rightV; rw [decide_eq_false hlc]; rfl
    rw [this]
    refine Fn.of tab_ok Tryz.func30 rfl (by decide) (by simp [Tryz.f30]) rfl (fun κ v h => by cases h) Gw.below ?_
    repeat' (first | refine Tr.seq ?_ | refine Tr.region ?_ | refine Sq.ev tab_ok rfl rfl ?_ | refine Sq.nil ?_ | (refine Sq.guard rfl rfl (fun _ => ?_) (fun _ => ?_) <;> refine Sq.ev tab_ok rfl rfl ?_) | (refine Tr.cond rfl (fun _ => ?_) (fun _ => ?_) <;> try (rename_i h; cases h; done)) | refine Tr.block ?_ | refine Tr.skip ?_ | refine Tr.ret ⟨_, rfl, ?_⟩)
    · rfl
    · rename_i h; exfalso
      have h : (((vs.map intT).length : Int) != ((c.map svcT).length : Int)) = false := h
      rw [List.length_map, List.length_map] at h
      simp at h; omega
  have hlc : vs.length = c.length := Classical.not_not.1 hlc
  have hR : rightV c vs = (List.range vs.length).all (okAt c vs) := by unfold rightV; rw [decide_eq_true hlc]; rfl
  refine Fn.of tab_ok Tryz.func30 rfl (by decide) (by simp [Tryz.f30]) rfl (fun κ v h => by cases h) Gw.below ?_
  repeat' (first | refine Tr.seq ?_ | refine Tr.region ?_ | refine Sq.ev tab_ok rfl rfl ?_ | refine Sq.nil ?_ | (refine Sq.guard rfl rfl (fun _ => ?_) (fun _ => ?_) <;> refine Sq.ev tab_ok rfl rfl ?_) | (refine Tr.cond rfl (fun _ => ?_) (fun _ => ?_) <;> try (rename_i h; cases h; done)) | refine Tr.block ?_ | refine Tr.skip ?_ | refine Tr.ret ⟨_, rfl, ?_⟩)
  · rename_i h; exfalso
    have h : (((vs.map intT).length : Int) != ((c.map svcT).length : Int)) = true := h
    rw [List.length_map, List.length_map] at h
    simp at h; omega
  refine Tr.loopS (fun i : Nat => [(.s 1, .tr (.ls (vs.map intT))), (.s 2, .ptr (.l 2) 0), (.l 2, .blk 29 [.tr (.ls (c.map svcT))]), (.s 5, int i)]) (fun i => vs.length - i)
    (fun i => i ≤ vs.length ∧ (List.range i).all (okAt c vs) = true) 0 ⟨by omega, rfl⟩ (Sub.app (l := [_, _, _, _]) (H := []) ⟨rfl, rfl, rfl, rfl, trivial⟩ (fun κ v h => nomatch h)) ?_
  rintro i ⟨hi, hp⟩
  repeat' (first | refine Tr.seq ?_ | refine Tr.region ?_ | refine Sq.ev tab_ok rfl rfl ?_ | refine Sq.nil ?_ | (refine Sq.guard rfl rfl (fun _ => ?_) (fun _ => ?_) <;> refine Sq.ev tab_ok rfl rfl ?_) | (refine Tr.cond rfl (fun _ => ?_) (fun _ => ?_) <;> try (rename_i h; cases h; done)) | refine Tr.block ?_ | refine Tr.skip ?_ | refine Tr.ret ⟨_, rfl, ?_⟩)
  · rename_i h2
    have hlt : i < vs.length := by simp only [List.length_map, decide_eq_true_eq] at h2; omega
    obtain ⟨v, hv⟩ : ∃ p, vs[i]? = some p := ⟨_, List.getElem?_eq_getElem hlt⟩
    obtain ⟨s, hs⟩ : ∃ p, c[i]? = some p := ⟨_, List.getElem?_eq_getElem (by omega)⟩
    have hve : (vs.map intT)[((i : Nat) : Int).toNat]? = some (intT v) := by simp [hv]
    have hse : (c.map svcT)[((i : Nat) : Int).toNat]? = some (svcT s) := by simp [hs]
    have hsi : c[((i : Nat) : Int).toNat]? = some s := by simpa using hs
    have hok : okAt c vs i = (relAt c i v).isSome := by unfold okAt; rw [hv]
    have bad : okAt c vs i = false → rightV c vs = false := fun hb => by
      rw [hR, ← Bool.not_eq_true, List.all_eq_true]
      intro hh
      rw [hh i (List.mem_range.2 hlt)] at hb; cases hb
    by_cases h3 : v < 0
    · have d3 : decide (v < 0) = true := decide_eq_true h3
      rw [bad (by rw [hok, relAt_neg h3]; rfl)]
      refine Tr.drawn ( DSq.ev tab_ok rfl rfl <| DSq.ev tab_ok rfl rfl <| DSq.one rfl (fun q K hK => Sq.index (x := intT v) tab_ok rfl (by omega) (hve) rfl (Sq.nil hK)) <| DSq.ev tab_ok rfl rfl <| DSq.evr tab_ok rfl (congrArg bool d3) <| DSq.ev tab_ok rfl rfl <| DSq.ev tab_ok rfl rfl <| DSq.ev tab_ok rfl rfl <| DSq.ev tab_ok rfl rfl <| DSq.ev tab_ok rfl rfl <| DSq.ev tab_ok rfl rfl <| DSq.ev tab_ok rfl rfl <| DSq.ev tab_ok rfl rfl <| DSq.ev tab_ok rfl rfl <| DSq.ev tab_ok rfl rfl <| DSq.ev tab_ok rfl rfl <| DSq.ev tab_ok rfl rfl <| DSq.ev tab_ok rfl rfl <| DSq.ev tab_ok rfl rfl <| DSq.nil _) mix_ok rfl ?_
      repeat' (first | refine Tr.seq ?_ | refine Tr.region ?_ | refine Sq.ev tab_ok rfl rfl ?_ | refine Sq.nil ?_ | (refine Sq.guard rfl rfl (fun _ => ?_) (fun _ => ?_) <;> refine Sq.ev tab_ok rfl rfl ?_) | (refine Tr.cond rfl (fun _ => ?_) (fun _ => ?_) <;> try (rename_i h; cases h; done)) | refine Tr.block ?_ | refine Tr.skip ?_ | refine Tr.ret ⟨_, rfl, ?_⟩)
      rfl
    have d3 : decide (v < 0) = false := decide_eq_false h3
    by_cases h4 : v ≥ ((s.rels.map rlsT).length : Int)
    · have d4 : decide (v ≥ ((s.rels.map rlsT).length : Int)) = true := decide_eq_true h4
      rw [bad (by rw [hok, relAt_pos hsi (by omega), List.getElem?_eq_none (by rw [List.length_map] at h4; omega)]; rfl)]
      refine Tr.drawn ( DSq.ev tab_ok rfl rfl <| DSq.ev tab_ok rfl rfl <| DSq.one rfl (fun q K hK => Sq.index (x := intT v) tab_ok rfl (by omega) (hve) rfl (Sq.nil hK)) <| DSq.ev tab_ok rfl rfl <| DSq.evr tab_ok rfl (congrArg bool d3) <| DSq.ev tab_ok rfl rfl <| DSq.ev tab_ok rfl rfl <| DSq.ev tab_ok rfl rfl <| DSq.one rfl (fun q K hK => Sq.index (x := intT v) tab_ok rfl (by omega) (hve) rfl (Sq.nil hK)) <| DSq.ev tab_ok rfl rfl <| DSq.ev tab_ok rfl rfl <| DSq.ev tab_ok rfl rfl <| DSq.ev tab_ok rfl rfl <| DSq.one rfl (fun q K hK => Sq.index (x := svcT s) tab_ok rfl (by omega) (hse) rfl (Sq.nil hK)) <| DSq.ev tab_ok rfl rfl <| DSq.ev tab_ok rfl rfl <| DSq.ev tab_ok rfl rfl <| DSq.evr tab_ok rfl (congrArg bool d4) <| DSq.ev tab_ok rfl rfl <| DSq.nil _) mix_ok rfl ?_
      repeat' (first | refine Tr.seq ?_ | refine Tr.region ?_ | refine Sq.ev tab_ok rfl rfl ?_ | refine Sq.nil ?_ | (refine Sq.guard rfl rfl (fun _ => ?_) (fun _ => ?_) <;> refine Sq.ev tab_ok rfl rfl ?_) | (refine Tr.cond rfl (fun _ => ?_) (fun _ => ?_) <;> try (rename_i h; cases h; done)) | refine Tr.block ?_ | refine Tr.skip ?_ | refine Tr.ret ⟨_, rfl, ?_⟩)
      rfl
    · have d4 : decide (v ≥ ((s.rels.map rlsT).length : Int)) = false := decide_eq_false h4
      rw [List.length_map] at h4
      refine Tr.drawn ( DSq.ev tab_ok rfl rfl <| DSq.ev tab_ok rfl rfl <| DSq.one rfl (fun q K hK => Sq.index (x := intT v) tab_ok rfl (by omega) (hve) rfl (Sq.nil hK)) <| DSq.ev tab_ok rfl rfl <| DSq.evr tab_ok rfl (congrArg bool d3) <| DSq.ev tab_ok rfl rfl <| DSq.ev tab_ok rfl rfl <| DSq.ev tab_ok rfl rfl <| DSq.one rfl (fun q K hK => Sq.index (x := intT v) tab_ok rfl (by omega) (hve) rfl (Sq.nil hK)) <| DSq.ev tab_ok rfl rfl <| DSq.ev tab_ok rfl rfl <| DSq.ev tab_ok rfl rfl <| DSq.ev tab_ok rfl rfl <| DSq.one rfl (fun q K hK => Sq.index (x := svcT s) tab_ok rfl (by omega) (hse) rfl (Sq.nil hK)) <| DSq.ev tab_ok rfl rfl <| DSq.ev tab_ok rfl rfl <| DSq.ev tab_ok rfl rfl <| DSq.evr tab_ok rfl (congrArg bool d4) <| DSq.ev tab_ok rfl rfl <| DSq.nil _) mix_ok rfl ?_
      repeat' (first | refine Tr.seq ?_ | refine Tr.region ?_ | refine Sq.ev tab_ok rfl rfl ?_ | refine Sq.nil ?_ | (refine Sq.guard rfl rfl (fun _ => ?_) (fun _ => ?_) <;> refine Sq.ev tab_ok rfl rfl ?_) | (refine Tr.cond rfl (fun _ => ?_) (fun _ => ?_) <;> try (rename_i h; cases h; done)) | refine Tr.block ?_ | refine Tr.skip ?_ | refine Tr.ret ⟨_, rfl, ?_⟩)
      exact ⟨i + 1, ⟨by omega, by
        rw [List.range_succ, List.all_append, hp]
        simp only [List.all_cons, List.all_nil, Bool.and_true, Bool.true_and]
        rw [hok, relAt_pos hsi (by omega), List.getElem?_eq_getElem (by omega)]; rfl⟩, by omega, Sub.app (l := [_, _, _, _]) (H := []) ⟨rfl, rfl, rfl, congrArg some (wrapz (by omega) (by omega) (by omega)), trivial⟩ (fun κ v h => nomatch h)⟩
  · rename_i h2
    have : i = vs.length := by simp only [List.length_map, decide_eq_false_iff_not] at h2; omega
    subst this
    refine Tr.exit ?_
    repeat' (first | refine Tr.seq ?_ | refine Tr.region ?_ | refine Sq.ev tab_ok rfl rfl ?_ | refine Sq.nil ?_ | (refine Sq.guard rfl rfl (fun _ => ?_) (fun _ => ?_) <;> refine Sq.ev tab_ok rfl rfl ?_) | (refine Tr.cond rfl (fun _ => ?_) (fun _ => ?_) <;> try (rename_i h; cases h; done)) | refine Tr.block ?_ | refine Tr.skip ?_ | refine Tr.ret ⟨_, rfl, ?_⟩)
    rw [hR, hp]
theorem pls_r (c : Ctl) (vs : List Int) : (pls c vs).map rPl = (List.range vs.length).map (pAt c vs) := by
  unfold pls
  rw [List.map_map]
  apply List.map_congr_left
  intro i _
  show rPl (plAt c vs i) = pAt c vs i
  unfold plAt pAt
  cases vs[i]? with
  | none => rfl
  | some v =>
    simp only
    cases relAt c i v <;> rfl
set_option maxRecDepth 8192 in
theorem refEnds_ok {c : Ctl} (hok : Ctl.ok c) (hc : c.length ≤ 1000000) (hlv : LvOk c) (f t : List Int) :
    Fn Tryz.prog Gw 17 [.tr (ctlT c), .tr (.ls (f.map intT)), .tr (.ls (t.map intT))] [] (· = int (endsV c f t)) := by
  have hA := Released_ok hc f
  have hB := Released_ok hc t
  unfold endsV
  cases hf : rightV c f
  · rw [hf] at hA
    rw [if_pos (.inl rfl)]
    refine Fn.of tab_ok Tryz.func17 rfl (by decide) (by simp [Tryz.f17]) rfl (fun κ v h => by cases h) Gw.below ?_
    repeat' (first | refine Tr.seq ?_ | refine Tr.region ?_ | refine Sq.ev tab_ok rfl rfl ?_ | refine Sq.nil ?_ | (refine Sq.guard rfl rfl (fun _ => ?_) (fun _ => ?_) <;> refine Sq.ev tab_ok rfl rfl ?_) | (refine Tr.cond rfl (fun _ => ?_) (fun _ => ?_) <;> try (rename_i h; cases h; done)) | refine Tr.block ?_ | refine Tr.skip ?_ | refine Tr.ret ⟨_, rfl, ?_⟩)
    refine Sq.callv rfl (hA) ?_
    repeat' (first | refine Tr.seq ?_ | refine Tr.region ?_ | refine Sq.ev tab_ok rfl rfl ?_ | refine Sq.nil ?_ | (refine Sq.guard rfl rfl (fun _ => ?_) (fun _ => ?_) <;> refine Sq.ev tab_ok rfl rfl ?_) | (refine Tr.cond rfl (fun _ => ?_) (fun _ => ?_) <;> try (rename_i h; cases h; done)) | refine Tr.block ?_ | refine Tr.skip ?_ | refine Tr.ret ⟨_, rfl, ?_⟩)
    rfl
  rw [hf] at hA
  cases ht : rightV c t
  · rw [ht] at hB
    rw [if_pos (.inr rfl)]
    refine Fn.of tab_ok Tryz.func17 rfl (by decide) (by simp [Tryz.f17]) rfl (fun κ v h => by cases h) Gw.below ?_
    repeat' (first | refine Tr.seq ?_ | refine Tr.region ?_ | refine Sq.ev tab_ok rfl rfl ?_ | refine Sq.nil ?_ | (refine Sq.guard rfl rfl (fun _ => ?_) (fun _ => ?_) <;> refine Sq.ev tab_ok rfl rfl ?_) | (refine Tr.cond rfl (fun _ => ?_) (fun _ => ?_) <;> try (rename_i h; cases h; done)) | refine Tr.block ?_ | refine Tr.skip ?_ | refine Tr.ret ⟨_, rfl, ?_⟩)
    refine Sq.callv rfl (hA) ?_
    repeat' (first | refine Tr.seq ?_ | refine Tr.region ?_ | refine Sq.ev tab_ok rfl rfl ?_ | refine Sq.nil ?_ | (refine Sq.guard rfl rfl (fun _ => ?_) (fun _ => ?_) <;> refine Sq.ev tab_ok rfl rfl ?_) | (refine Tr.cond rfl (fun _ => ?_) (fun _ => ?_) <;> try (rename_i h; cases h; done)) | refine Tr.block ?_ | refine Tr.skip ?_ | refine Tr.ret ⟨_, rfl, ?_⟩)
    refine Sq.callv rfl (hB) ?_
    repeat' (first | refine Tr.seq ?_ | refine Tr.region ?_ | refine Sq.ev tab_ok rfl rfl ?_ | refine Sq.nil ?_ | (refine Sq.guard rfl rfl (fun _ => ?_) (fun _ => ?_) <;> refine Sq.ev tab_ok rfl rfl ?_) | (refine Tr.cond rfl (fun _ => ?_) (fun _ => ?_) <;> try (rename_i h; cases h; done)) | refine Tr.block ?_ | refine Tr.skip ?_ | refine Tr.ret ⟨_, rfl, ?_⟩)
    rfl
  rw [ht] at hB
  rw [if_neg (by simp)]
  have hSf := refSettled_ok hc hlv f hf
  have hSt := refSettled_ok hc hlv t ht
  rw [← pls_r] at hSf hSt
  have hG := refGood_ok hok hlv hc (pls c f)
  have hG2 := refGood_ok hok hlv hc (pls c t)
  cases hg : goodB c (pls c f)
  · rw [hg] at hG
    rw [if_pos (.inl rfl)]
    generalize (pls c f).map rPl = L1 at *
    refine Fn.of tab_ok Tryz.func17 rfl (by decide) (by simp [Tryz.f17]) rfl (fun κ v h => by cases h) Gw.below ?_
    repeat' (first | refine Tr.seq ?_ | refine Tr.region ?_ | refine Sq.ev tab_ok rfl rfl ?_ | refine Sq.nil ?_ | (refine Sq.guard rfl rfl (fun _ => ?_) (fun _ => ?_) <;> refine Sq.ev tab_ok rfl rfl ?_) | (refine Tr.cond rfl (fun _ => ?_) (fun _ => ?_) <;> try (rename_i h; cases h; done)) | refine Tr.block ?_ | refine Tr.skip ?_ | refine Tr.ret ⟨_, rfl, ?_⟩)
    refine Sq.callv rfl (hA) ?_
    repeat' (first | refine Tr.seq ?_ | refine Tr.region ?_ | refine Sq.ev tab_ok rfl rfl ?_ | refine Sq.nil ?_ | (refine Sq.guard rfl rfl (fun _ => ?_) (fun _ => ?_) <;> refine Sq.ev tab_ok rfl rfl ?_) | (refine Tr.cond rfl (fun _ => ?_) (fun _ => ?_) <;> try (rename_i h; cases h; done)) | refine Tr.block ?_ | refine Tr.skip ?_ | refine Tr.ret ⟨_, rfl, ?_⟩)
    refine Sq.callv rfl (hB) ?_
    repeat' (first | refine Tr.seq ?_ | refine Tr.region ?_ | refine Sq.ev tab_ok rfl rfl ?_ | refine Sq.nil ?_ | (refine Sq.guard rfl rfl (fun _ => ?_) (fun _ => ?_) <;> refine Sq.ev tab_ok rfl rfl ?_) | (refine Tr.cond rfl (fun _ => ?_) (fun _ => ?_) <;> try (rename_i h; cases h; done)) | refine Tr.block ?_ | refine Tr.skip ?_ | refine Tr.ret ⟨_, rfl, ?_⟩)
    refine Tr.drawn ( DSq.ev tab_ok rfl rfl <| DSq.ev tab_ok rfl rfl <| DSq.ev tab_ok rfl rfl <| DSq.call rfl (fun _ => rfl) (hSf) <| DSq.call rfl (fun _ => rfl) (hG) <| DSq.ev tab_ok rfl rfl <| DSq.ev tab_ok rfl rfl <| DSq.ev tab_ok rfl rfl <| DSq.ev tab_ok rfl rfl <| DSq.ev tab_ok rfl rfl <| DSq.ev tab_ok rfl rfl <| DSq.ev tab_ok rfl rfl <| DSq.ev tab_ok rfl rfl <| DSq.ev tab_ok rfl rfl <| DSq.nil _) mix_ok rfl ?_
    repeat' (first | refine Tr.seq ?_ | refine Tr.region ?_ | refine Sq.ev tab_ok rfl rfl ?_ | refine Sq.nil ?_ | (refine Sq.guard rfl rfl (fun _ => ?_) (fun _ => ?_) <;> refine Sq.ev tab_ok rfl rfl ?_) | (refine Tr.cond rfl (fun _ => ?_) (fun _ => ?_) <;> try (rename_i h; cases h; done)) | refine Tr.block ?_ | refine Tr.skip ?_ | refine Tr.ret ⟨_, rfl, ?_⟩)
    rfl
  rw [hg] at hG
  cases hg2 : goodB c (pls c t)
  · rw [hg2] at hG2
    rw [if_pos (.inr rfl)]
    generalize (pls c f).map rPl = L1 at *
    generalize (pls c t).map rPl = L2 at *
    refine Fn.of tab_ok Tryz.func17 rfl (by decide) (by simp [Tryz.f17]) rfl (fun κ v h => by cases h) Gw.below ?_
    repeat' (first | refine Tr.seq ?_ | refine Tr.region ?_ | refine Sq.ev tab_ok rfl rfl ?_ | refine Sq.nil ?_ | (refine Sq.guard rfl rfl (fun _ => ?_) (fun _ => ?_) <;> refine Sq.ev tab_ok rfl rfl ?_) | (refine Tr.cond rfl (fun _ => ?_) (fun _ => ?_) <;> try (rename_i h; cases h; done)) | refine Tr.block ?_ | refine Tr.skip ?_ | refine Tr.ret ⟨_, rfl, ?_⟩)
    refine Sq.callv rfl (hA) ?_
    repeat' (first | refine Tr.seq ?_ | refine Tr.region ?_ | refine Sq.ev tab_ok rfl rfl ?_ | refine Sq.nil ?_ | (refine Sq.guard rfl rfl (fun _ => ?_) (fun _ => ?_) <;> refine Sq.ev tab_ok rfl rfl ?_) | (refine Tr.cond rfl (fun _ => ?_) (fun _ => ?_) <;> try (rename_i h; cases h; done)) | refine Tr.block ?_ | refine Tr.skip ?_ | refine Tr.ret ⟨_, rfl, ?_⟩)
    refine Sq.callv rfl (hB) ?_
    repeat' (first | refine Tr.seq ?_ | refine Tr.region ?_ | refine Sq.ev tab_ok rfl rfl ?_ | refine Sq.nil ?_ | (refine Sq.guard rfl rfl (fun _ => ?_) (fun _ => ?_) <;> refine Sq.ev tab_ok rfl rfl ?_) | (refine Tr.cond rfl (fun _ => ?_) (fun _ => ?_) <;> try (rename_i h; cases h; done)) | refine Tr.block ?_ | refine Tr.skip ?_ | refine Tr.ret ⟨_, rfl, ?_⟩)
    refine Tr.drawn ( DSq.ev tab_ok rfl rfl <| DSq.ev tab_ok rfl rfl <| DSq.ev tab_ok rfl rfl <| DSq.call rfl (fun _ => rfl) (hSf) <| DSq.call rfl (fun _ => rfl) (hG) <| DSq.ev tab_ok rfl rfl <| DSq.ev tab_ok rfl rfl <| DSq.ev tab_ok rfl rfl <| DSq.ev tab_ok rfl rfl <| DSq.ev tab_ok rfl rfl <| DSq.call rfl (fun _ => rfl) (hSt) <| DSq.call rfl (fun _ => rfl) (hG2) <| DSq.ev tab_ok rfl rfl <| DSq.ev tab_ok rfl rfl <| DSq.nil _) mix_ok rfl ?_
    repeat' (first | refine Tr.seq ?_ | refine Tr.region ?_ | refine Sq.ev tab_ok rfl rfl ?_ | refine Sq.nil ?_ | (refine Sq.guard rfl rfl (fun _ => ?_) (fun _ => ?_) <;> refine Sq.ev tab_ok rfl rfl ?_) | (refine Tr.cond rfl (fun _ => ?_) (fun _ => ?_) <;> try (rename_i h; cases h; done)) | refine Tr.block ?_ | refine Tr.skip ?_ | refine Tr.ret ⟨_, rfl, ?_⟩)
    rfl
  rw [hg2] at hG2
  rw [if_neg (by simp)]
  obtain ⟨hfl, hfa⟩ := rightV_at hf
  obtain ⟨htl, hta⟩ := rightV_at ht
  generalize (pls c f).map rPl = L1 at *
  generalize (pls c t).map rPl = L2 at *
  refine Fn.of tab_ok Tryz.func17 rfl (by decide) (by simp [Tryz.f17]) rfl (fun κ v h => by cases h) Gw.below ?_
  repeat' (first | refine Tr.seq ?_ | refine Tr.region ?_ | refine Sq.ev tab_ok rfl rfl ?_ | refine Sq.nil ?_ | (refine Sq.guard rfl rfl (fun _ => ?_) (fun _ => ?_) <;> refine Sq.ev tab_ok rfl rfl ?_) | (refine Tr.cond rfl (fun _ => ?_) (fun _ => ?_) <;> try (rename_i h; cases h; done)) | refine Tr.block ?_ | refine Tr.skip ?_ | refine Tr.ret ⟨_, rfl, ?_⟩)
  refine Sq.callv rfl (hA) ?_
  repeat' (first | refine Tr.seq ?_ | refine Tr.region ?_ | refine Sq.ev tab_ok rfl rfl ?_ | refine Sq.nil ?_ | (refine Sq.guard rfl rfl (fun _ => ?_) (fun _ => ?_) <;> refine Sq.ev tab_ok rfl rfl ?_) | (refine Tr.cond rfl (fun _ => ?_) (fun _ => ?_) <;> try (rename_i h; cases h; done)) | refine Tr.block ?_ | refine Tr.skip ?_ | refine Tr.ret ⟨_, rfl, ?_⟩)
  refine Sq.callv rfl (hB) ?_
  repeat' (first | refine Tr.seq ?_ | refine Tr.region ?_ | refine Sq.ev tab_ok rfl rfl ?_ | refine Sq.nil ?_ | (refine Sq.guard rfl rfl (fun _ => ?_) (fun _ => ?_) <;> refine Sq.ev tab_ok rfl rfl ?_) | (refine Tr.cond rfl (fun _ => ?_) (fun _ => ?_) <;> try (rename_i h; cases h; done)) | refine Tr.block ?_ | refine Tr.skip ?_ | refine Tr.ret ⟨_, rfl, ?_⟩)
  refine Tr.drawn ( DSq.ev tab_ok rfl rfl <| DSq.ev tab_ok rfl rfl <| DSq.ev tab_ok rfl rfl <| DSq.call rfl (fun _ => rfl) (hSf) <| DSq.call rfl (fun _ => rfl) (hG) <| DSq.ev tab_ok rfl rfl <| DSq.ev tab_ok rfl rfl <| DSq.ev tab_ok rfl rfl <| DSq.ev tab_ok rfl rfl <| DSq.ev tab_ok rfl rfl <| DSq.call rfl (fun _ => rfl) (hSt) <| DSq.call rfl (fun _ => rfl) (hG2) <| DSq.ev tab_ok rfl rfl <| DSq.ev tab_ok rfl rfl <| DSq.nil _) mix_ok rfl ?_
  repeat' (first | refine Tr.seq ?_ | refine Tr.region ?_ | refine Sq.ev tab_ok rfl rfl ?_ | refine Sq.nil ?_ | (refine Sq.guard rfl rfl (fun _ => ?_) (fun _ => ?_) <;> refine Sq.ev tab_ok rfl rfl ?_) | (refine Tr.cond rfl (fun _ => ?_) (fun _ => ?_) <;> try (rename_i h; cases h; done)) | refine Tr.block ?_ | refine Tr.skip ?_ | refine Tr.ret ⟨_, rfl, ?_⟩)
  refine Tr.loopS (fun i : Nat => [(.s 1, .tr (.ls (f.map intT))), (.s 2, .tr (.ls (t.map intT))), (.s 3, .ptr (.l 3) 0), (.l 3, .blk 29 [.tr (.ls (c.map svcT))]), (.s 7, int i)]) (fun i => f.length - i) (fun i => i ≤ f.length ∧ ∀ k, k < i → (decide (riseV c f t k < 0) || decide (riseV c f t k > 1)) = false)
    0 ⟨by omega, by intro b hb; omega⟩ (Sub.app (l := [_, _, _, _, _]) (H := []) ⟨rfl, rfl, rfl, rfl, rfl, trivial⟩ (fun κ v h => nomatch h)) ?_
  rintro i ⟨hi, hno⟩
  repeat' (first | refine Tr.seq ?_ | refine Tr.region ?_ | refine Sq.ev tab_ok rfl rfl ?_ | refine Sq.nil ?_ | (refine Sq.guard rfl rfl (fun _ => ?_) (fun _ => ?_) <;> refine Sq.ev tab_ok rfl rfl ?_) | (refine Tr.cond rfl (fun _ => ?_) (fun _ => ?_) <;> try (rename_i h; cases h; done)) | refine Tr.block ?_ | refine Tr.skip ?_ | refine Tr.ret ⟨_, rfl, ?_⟩)
  · rename_i h2
    have h2 : decide ((i : Int) < ((f.map intT).length : Int)) = true := h2
    have hlt : i < f.length := by simp only [List.length_map, decide_eq_true_eq] at h2; omega
    obtain ⟨v, s, r, hv, hs, hv0, hr, hrel⟩ := hfa i hlt
    obtain ⟨w, s', g, hw, hs', hw0, hq, hqel⟩ := hta i (by omega)
    obtain rfl : s = s' := by rw [hs] at hs'; exact Option.some.inj hs'
    obtain ⟨l0, l1⟩ := (hlv s (List.mem_of_getElem? hs)).2 r (List.mem_of_getElem? hr)
    obtain ⟨m0, m1⟩ := (hlv s (List.mem_of_getElem? hs)).2 g (List.mem_of_getElem? hq)
    have hve : (f.map intT)[((i : Nat) : Int).toNat]? = some (intT v) := by simp [hv]
    have hwe : (t.map intT)[((i : Nat) : Int).toNat]? = some (intT w) := by simp [hw]
    have hse : (c.map svcT)[((i : Nat) : Int).toNat]? = some (svcT s) := by simp [hs]
    have hre : (s.rels.map rlsT)[v.toNat]? = some (rlsT r) := by simp [hr]
    have hqe : (s.rels.map rlsT)[w.toNat]? = some (rlsT g) := by simp [hq]
    have hrise : riseV c f t i = g.level - r.level := by unfold riseV lvl; rw [vAt_of hv, vAt_of hw, hrel, hqel]
    refine Tr.drawn ( DSq.ev tab_ok rfl rfl <| DSq.ev tab_ok rfl rfl <| DSq.ev tab_ok rfl rfl <| DSq.one rfl (fun q K hK => Sq.index (x := svcT s) tab_ok rfl (by omega) (hse) rfl (Sq.nil hK)) <| DSq.ev tab_ok rfl rfl <| DSq.ev tab_ok rfl rfl <| DSq.ev tab_ok rfl rfl <| DSq.ev tab_ok rfl rfl <| DSq.one rfl (fun q K hK => Sq.index (x := intT w) tab_ok rfl (by omega) (hwe) rfl (Sq.nil hK)) <| DSq.ev tab_ok rfl rfl <| DSq.one rfl (fun q K hK => Sq.index (x := rlsT g) tab_ok rfl (by omega) (hqe) rfl (Sq.nil hK)) <| DSq.ev tab_ok rfl rfl <| DSq.ev tab_ok rfl rfl <| DSq.ev tab_ok rfl rfl <| DSq.ev tab_ok rfl rfl <| DSq.ev tab_ok rfl rfl <| DSq.one rfl (fun q K hK => Sq.index (x := svcT s) tab_ok rfl (by omega) (hse) rfl (Sq.nil hK)) <| DSq.ev tab_ok rfl rfl <| DSq.ev tab_ok rfl rfl <| DSq.ev tab_ok rfl rfl <| DSq.ev tab_ok rfl rfl <| DSq.one rfl (fun q K hK => Sq.index (x := intT v) tab_ok rfl (by omega) (hve) rfl (Sq.nil hK)) <| DSq.ev tab_ok rfl rfl <| DSq.one rfl (fun q K hK => Sq.index (x := rlsT r) tab_ok rfl (by omega) (hre) rfl (Sq.nil hK)) <| DSq.ev tab_ok rfl rfl <| DSq.ev tab_ok rfl rfl <| DSq.evr tab_ok rfl (congrArg int (Go.IntWalk.i64_in (g.level - r.level) ⟨by omega, by omega⟩)) <| DSq.ev tab_ok rfl rfl <| DSq.nil _) mix_ok rfl ?_
    have hany : ∀ z, riseV c f t i = z → (decide (z < 0) || decide (z > 1)) = true → ((List.range f.length).any fun i => decide (riseV c f t i < 0) || decide (riseV c f t i > 1)) = true := fun z hz h => List.any_eq_true.2 ⟨i, List.mem_range.2 hlt, by rw [hz]; exact h⟩
    have hnx : ∀ z, riseV c f t i = z → (decide (z < 0) || decide (z > 1)) = false → ∀ k, k < i + 1 → (decide (riseV c f t k < 0) || decide (riseV c f t k > 1)) = false := fun z hz h k hk => by
      rcases Nat.lt_succ_iff_lt_or_eq.1 hk with h3 | rfl
      · exact hno k h3
      · rw [hz]; exact h
    rw [← hrise]
    generalize hz : riseV c f t i = z at *
    repeat' (first | refine Tr.seq ?_ | refine Tr.region ?_ | refine Sq.ev tab_ok rfl rfl ?_ | refine Sq.nil ?_ | (refine Sq.guard rfl rfl (fun _ => ?_) (fun _ => ?_) <;> refine Sq.ev tab_ok rfl rfl ?_) | (refine Tr.cond rfl (fun _ => ?_) (fun _ => ?_) <;> try (rename_i h; cases h; done)) | refine Tr.block ?_ | refine Tr.skip ?_ | refine Tr.ret ⟨_, rfl, ?_⟩)
    · rename_i h3 h4
      have h3 : (z != 0) = true := h3
      have h4 : (z != 1) = true := h4
      show int 43 = int _
      rw [if_pos (hany z rfl (by rw [bne_iff_ne] at h3 h4; rw [Bool.or_eq_true, decide_eq_true_eq, decide_eq_true_eq]; omega))]
    · rename_i h3 h4
      have h4 : (z != 1) = false := h4
      exact ⟨i + 1, ⟨by omega, hnx z rfl (by simp at h4; subst h4; rfl)⟩, by omega, Sub.app (l := [_, _, _, _, _]) (H := []) ⟨rfl, rfl, rfl, rfl, congrArg some (wrapz (by omega) (by omega) (by omega)), trivial⟩ (fun κ v h => nomatch h)⟩
    · rename_i h3 _
      have h3 : (z != 0) = false := h3
      exact ⟨i + 1, ⟨by omega, hnx z rfl (by simp at h3; subst h3; rfl)⟩, by omega, Sub.app (l := [_, _, _, _, _]) (H := []) ⟨rfl, rfl, rfl, rfl, congrArg some (wrapz (by omega) (by omega) (by omega)), trivial⟩ (fun κ v h => nomatch h)⟩
  · rename_i h2
    have h2 : decide ((i : Int) < ((f.map intT).length : Int)) = false := h2
    have : i = f.length := by simp only [List.length_map, decide_eq_false_iff_not] at h2; omega
    subst this
    refine Tr.exit ?_
    repeat' (first | refine Tr.seq ?_ | refine Tr.region ?_ | refine Sq.ev tab_ok rfl rfl ?_ | refine Sq.nil ?_ | (refine Sq.guard rfl rfl (fun _ => ?_) (fun _ => ?_) <;> refine Sq.ev tab_ok rfl rfl ?_) | (refine Tr.cond rfl (fun _ => ?_) (fun _ => ?_) <;> try (rename_i h; cases h; done)) | refine Tr.block ?_ | refine Tr.skip ?_ | refine Tr.ret ⟨_, rfl, ?_⟩)
    show int 0 = int _
    rw [if_neg]
    intro h
    obtain ⟨k, hk, h⟩ := List.any_eq_true.1 h
    rw [hno k (List.mem_range.1 hk)] at h
    cases h
end Go.Lg.Tryz

set_option linter.unusedVariables false
set_option linter.unusedSimpArgs false
namespace Go.Lg.Tryz
open Go Go.Proofs Go.RowKit Go.Lib Go.Lg.Sem
theorem refSteps_ok {c : Ctl} (hlv : LvOk c) {f t : List Int} (hf : rightV c f = true) (ht : rightV c t = true) (hl : f.length ≤ 1000) (hri : ∀ i, i < f.length → riseV c f t i = 0 ∨ riseV c f t i = 1) :
    Fn Tryz.prog Gw 20 [.tr (ctlT c), .tr (.ls (f.map intT)), .tr (.ls (t.map intT))] [] (· = .tr (.ls ((stepsV c f t).map stpT))) := by
  obtain ⟨hfl, hfa⟩ := rightV_at hf
  obtain ⟨htl, hta⟩ := rightV_at ht
  refine Fn.of tab_ok Tryz.func20 rfl (by decide) (by simp [Tryz.f20]) rfl (fun κ v h => by cases h) Gw.below ?_
  repeat' (first | refine Tr.seq ?_ | refine Tr.region ?_ | refine Sq.ev tab_ok rfl rfl ?_ | refine Sq.nil ?_ | (refine Sq.guard rfl rfl (fun _ => ?_) (fun _ => ?_) <;> refine Sq.ev tab_ok rfl rfl ?_) | (refine Tr.cond rfl (fun _ => ?_) (fun _ => ?_) <;> try (rename_i h; cases h; done)) | refine Tr.block ?_ | refine Tr.skip ?_ | refine Tr.ret ⟨_, rfl, ?_⟩)
  refine Tr.loopS (fun i : Nat => [(.s 1, .tr (.ls (f.map intT))), (.s 2, .tr (.ls (t.map intT))), (.s 3, .ptr (.l 3) 0), (.l 3, .blk 29 [.tr (.ls (c.map svcT))]), (.s 7, .own 115 ((stepsUp c f t i).map stpT)), (.s 8, int i)]) (fun i => f.length - i) (fun i => i ≤ f.length)
    0 (by omega) (Sub.app (l := [_, _, _, _, _, _]) (H := []) ⟨rfl, rfl, rfl, rfl, rfl, rfl, trivial⟩ (fun κ v h => nomatch h)) ?_
  rintro i hi
  have hlen := stepsUp_len c f t i
  repeat' (first | refine Tr.seq ?_ | refine Tr.region ?_ | refine Sq.ev tab_ok rfl rfl ?_ | refine Sq.nil ?_ | (refine Sq.guard rfl rfl (fun _ => ?_) (fun _ => ?_) <;> refine Sq.ev tab_ok rfl rfl ?_) | (refine Tr.cond rfl (fun _ => ?_) (fun _ => ?_) <;> try (rename_i h; cases h; done)) | refine Tr.block ?_ | refine Tr.skip ?_ | refine Tr.ret ⟨_, rfl, ?_⟩)
  · rename_i h2
    have h2 : decide ((i : Int) < ((f.map intT).length : Int)) = true := h2
    have hlt : i < f.length := by simp only [List.length_map, decide_eq_true_eq] at h2; omega
    obtain ⟨v, s, r, hv, hs, hv0, hr, hrel⟩ := hfa i hlt
    obtain ⟨w, s', g, hw, hs', hw0, hq, hqel⟩ := hta i (by omega)
    obtain rfl : s = s' := by rw [hs] at hs'; exact Option.some.inj hs'
    have hve : (f.map intT)[((i : Nat) : Int).toNat]? = some (intT v) := by simp [hv]
    have hwe : (t.map intT)[((i : Nat) : Int).toNat]? = some (intT w) := by simp [hw]
    have hse : (c.map svcT)[((i : Nat) : Int).toNat]? = some (svcT s) := by simp [hs]
    have hre : (s.rels.map rlsT)[v.toNat]? = some (rlsT r) := by simp [hr]
    have hqe : (s.rels.map rlsT)[w.toNat]? = some (rlsT g) := by simp [hq]
    have hrise : riseV c f t i = g.level - r.level := by unfold riseV lvl; rw [vAt_of hv, vAt_of hw, hrel, hqel]
    have hri := hri i hlt
    have hsucc := stepsUp_succ c f t i
    have hsa : stepsAt c f t i = if v = w then [] else if riseV c f t i = 0 then [⟨i, 2⟩] else [⟨i, 1⟩, ⟨i, 2⟩, ⟨i, 3⟩] := by unfold stepsAt; rw [vAt_of hv, vAt_of hw]
    refine Tr.drawn ( DSq.ev tab_ok rfl rfl <| DSq.ev tab_ok rfl rfl <| DSq.one rfl (fun q K hK => Sq.index (x := intT v) tab_ok rfl (by omega) (hve) rfl (Sq.nil hK)) <| DSq.ev tab_ok rfl rfl <| DSq.ev tab_ok rfl rfl <| DSq.ev tab_ok rfl rfl <| DSq.one rfl (fun q K hK => Sq.index (x := intT w) tab_ok rfl (by omega) (hwe) rfl (Sq.nil hK)) <| DSq.ev tab_ok rfl rfl <| DSq.ev tab_ok rfl rfl <| DSq.nil _) mix_ok rfl ?_
    refine Tr.cond rfl (fun h3 => ?_) (fun h3 => ?_)
    · have h3 : (v == w) = true := h3
      rw [beq_iff_eq] at h3
      rw [if_pos h3] at hsa
      rw [hsa, List.append_nil] at hsucc
      refine Tr.exit ?_
      repeat' (first | refine Tr.seq ?_ | refine Tr.region ?_ | refine Sq.ev tab_ok rfl rfl ?_ | refine Sq.nil ?_ | (refine Sq.guard rfl rfl (fun _ => ?_) (fun _ => ?_) <;> refine Sq.ev tab_ok rfl rfl ?_) | (refine Tr.cond rfl (fun _ => ?_) (fun _ => ?_) <;> try (rename_i h; cases h; done)) | refine Tr.block ?_ | refine Tr.skip ?_ | refine Tr.ret ⟨_, rfl, ?_⟩)
      exact ⟨i + 1, by omega, by omega, Sub.app (l := [_, _, _, _, _, _]) (H := []) ⟨rfl, rfl, rfl, rfl, by rw [hsucc]; rfl, congrArg some (wrapz (by omega) (by omega) (by omega)), trivial⟩ (fun κ v h => nomatch h)⟩
    · have h3 : (v == w) = false := h3
      rw [beq_eq_false_iff_ne] at h3
      rw [if_neg h3] at hsa
      refine Tr.skip ?_
      refine Tr.seq ?_
      refine Tr.drawn ( DSq.ev tab_ok rfl rfl <| DSq.ev tab_ok rfl rfl <| DSq.ev tab_ok rfl rfl <| DSq.one rfl (fun q K hK => Sq.index (x := svcT s) tab_ok rfl (by omega) (hse) rfl (Sq.nil hK)) <| DSq.ev tab_ok rfl rfl <| DSq.ev tab_ok rfl rfl <| DSq.ev tab_ok rfl rfl <| DSq.ev tab_ok rfl rfl <| DSq.one rfl (fun q K hK => Sq.index (x := intT w) tab_ok rfl (by omega) (hwe) rfl (Sq.nil hK)) <| DSq.ev tab_ok rfl rfl <| DSq.one rfl (fun q K hK => Sq.index (x := rlsT g) tab_ok rfl (by omega) (hqe) rfl (Sq.nil hK)) <| DSq.ev tab_ok rfl rfl <| DSq.ev tab_ok rfl rfl <| DSq.ev tab_ok rfl rfl <| DSq.ev tab_ok rfl rfl <| DSq.ev tab_ok rfl rfl <| DSq.one rfl (fun q K hK => Sq.index (x := svcT s) tab_ok rfl (by omega) (hse) rfl (Sq.nil hK)) <| DSq.ev tab_ok rfl rfl <| DSq.ev tab_ok rfl rfl <| DSq.ev tab_ok rfl rfl <| DSq.ev tab_ok rfl rfl <| DSq.one rfl (fun q K hK => Sq.index (x := intT v) tab_ok rfl (by omega) (hve) rfl (Sq.nil hK)) <| DSq.ev tab_ok rfl rfl <| DSq.one rfl (fun q K hK => Sq.index (x := rlsT r) tab_ok rfl (by omega) (hre) rfl (Sq.nil hK)) <| DSq.ev tab_ok rfl rfl <| DSq.ev tab_ok rfl rfl <| DSq.ev tab_ok rfl rfl <| DSq.nil _) mix_ok rfl ?_
      refine Tr.cond rfl (fun h4 => ?_) (fun h4 => ?_)
      · have h4 : decide (g.level > r.level) = true := h4
        rw [decide_eq_true_eq] at h4
        rw [if_neg (by rw [hrise]; omega)] at hsa
        refine Tr.region ?_
        refine Sq.ev tab_ok rfl rfl ?_
        refine Sq.ev tab_ok rfl rfl ?_
        refine Sq.ev tab_ok rfl rfl ?_
        refine Sq.ev tab_ok rfl rfl ?_
        refine Sq.ev tab_ok rfl rfl ?_
        refine Sq.ev tab_ok rfl rfl ?_
        refine Sq.ev tab_ok rfl rfl ?_
        refine Sq.ev tab_ok rfl rfl ?_
        refine Sq.append tab_ok rfl (fun y hy => by simp only [List.mem_cons, List.not_mem_nil, or_false] at hy; rcases hy with rfl | rfl | rfl <;> rfl) (by simp; omega) ?_
        repeat' (first | refine Tr.seq ?_ | refine Tr.region ?_ | refine Sq.ev tab_ok rfl rfl ?_ | refine Sq.nil ?_ | (refine Sq.guard rfl rfl (fun _ => ?_) (fun _ => ?_) <;> refine Sq.ev tab_ok rfl rfl ?_) | (refine Tr.cond rfl (fun _ => ?_) (fun _ => ?_) <;> try (rename_i h; cases h; done)) | refine Tr.block ?_ | refine Tr.skip ?_ | refine Tr.ret ⟨_, rfl, ?_⟩)
        exact ⟨i + 1, by omega, by omega, Sub.app (l := [_, _, _, _, _, _]) (H := []) ⟨rfl, rfl, rfl, rfl, by rw [hsucc, hsa, List.map_append]; rfl, congrArg some (wrapz (by omega) (by omega) (by omega)), trivial⟩ (fun κ v h => nomatch h)⟩
      · have h4 : decide (g.level > r.level) = false := h4
        rw [decide_eq_false_iff_not] at h4
        rw [if_pos (by omega)] at hsa
        refine Tr.region ?_
        refine Sq.ev tab_ok rfl rfl ?_
        refine Sq.ev tab_ok rfl rfl ?_
        refine Sq.ev tab_ok rfl rfl ?_
        refine Sq.ev tab_ok rfl rfl ?_
        refine Sq.append tab_ok rfl (fun y hy => by simp only [List.mem_singleton] at hy; subst hy; rfl) (by simp; omega) ?_
        repeat' (first | refine Tr.seq ?_ | refine Tr.region ?_ | refine Sq.ev tab_ok rfl rfl ?_ | refine Sq.nil ?_ | (refine Sq.guard rfl rfl (fun _ => ?_) (fun _ => ?_) <;> refine Sq.ev tab_ok rfl rfl ?_) | (refine Tr.cond rfl (fun _ => ?_) (fun _ => ?_) <;> try (rename_i h; cases h; done)) | refine Tr.block ?_ | refine Tr.skip ?_ | refine Tr.ret ⟨_, rfl, ?_⟩)
        exact ⟨i + 1, by omega, by omega, Sub.app (l := [_, _, _, _, _, _]) (H := []) ⟨rfl, rfl, rfl, rfl, by rw [hsucc, hsa, List.map_append]; rfl, congrArg some (wrapz (by omega) (by omega) (by omega)), trivial⟩ (fun κ v h => nomatch h)⟩
  · rename_i h2
    have h2 : decide ((i : Int) < ((f.map intT).length : Int)) = false := h2
    have : i = f.length := by simp only [List.length_map, decide_eq_false_iff_not] at h2; omega
    subst this
    refine Tr.exit ?_
    repeat' (first | refine Tr.seq ?_ | refine Tr.region ?_ | refine Sq.ev tab_ok rfl rfl ?_ | refine Sq.nil ?_ | (refine Sq.guard rfl rfl (fun _ => ?_) (fun _ => ?_) <;> refine Sq.ev tab_ok rfl rfl ?_) | (refine Tr.cond rfl (fun _ => ?_) (fun _ => ?_) <;> try (rename_i h; cases h; done)) | refine Tr.block ?_ | refine Tr.skip ?_ | refine Tr.ret ⟨_, rfl, ?_⟩)
    rfl
theorem Must_ok {c : Ctl} (hok : Ctl.ok c) (f t : List Int) (l : List Stp) (e : List (Nat × Nat)) {a b : Stp} (hak : a.k ≤ 3) (hbk : b.k ≤ 3) (ha : a.s < f.length) (hb : b.s < t.length) :
    Fn Tryz.prog Gw 50 [.tr (ctlT c), .tr (plnT ⟨f, t, l, e⟩), .tr (stpT a), .tr (stpT b)] [] (· = bool (aheadS c f t a b)) := by
  obtain ⟨s, k⟩ := a
  obtain ⟨s', k'⟩ := b
  obtain ⟨v, hv⟩ : ∃ v, f[s]? = some v := ⟨_, List.getElem?_eq_getElem ha⟩
  obtain ⟨w, hw⟩ : ∃ v, t[s']? = some v := ⟨_, List.getElem?_eq_getElem hb⟩
  have hve : (f.map intT)[((s : Nat) : Int).toNat]? = some (intT v) := by simp [hv]
  have hwe : (t.map intT)[((s' : Nat) : Int).toNat]? = some (intT w) := by simp [hw]
  have hF := refFits_ok hok s v s' w
  have hak' : k ≤ 3 := hak
  have hbk' : k' ≤ 3 := hbk
  have hwr : IntKind.i64.wrap ((k : Int) + 1) = ((k + 1 : Nat) : Int) := by rw [Go.IntWalk.i64_in _ ⟨by omega, by omega⟩]; rfl
  unfold aheadS
  simp only
  rw [vAt_of hv, vAt_of hw]
  refine Fn.of tab_ok Tryz.func50 rfl (by decide) (by simp [Tryz.f50]) rfl (fun κ v h => by cases h) Gw.below ?_
  repeat' (first | refine Tr.seq ?_ | refine Tr.region ?_ | refine Sq.ev tab_ok rfl rfl ?_ | refine Sq.nil ?_ | (refine Sq.guard rfl rfl (fun _ => ?_) (fun _ => ?_) <;> refine Sq.ev tab_ok rfl rfl ?_) | (refine Tr.cond rfl (fun _ => ?_) (fun _ => ?_) <;> try (rename_i h; cases h; done)) | refine Tr.block ?_ | refine Tr.skip ?_ | refine Tr.ret ⟨_, rfl, ?_⟩)
  · rename_i h1
    have h1 : ((s : Int) == (s' : Int)) = true := h1
    have h1 : s = s' := by rw [beq_iff_eq] at h1; omega
    rw [if_pos h1]
    show bool (IntKind.i64.wrap ((k : Int) + 1) == (k' : Int)) = _
    rw [hwr]
    have e : (((k + 1 : Nat) : Int) == (k' : Int)) = (k' == k + 1) := by rw [Bool.eq_iff_iff, beq_iff_eq, beq_iff_eq]; omega
    rw [e]
  · rename_i h1 h2 _
    have h1 : ((s : Int) == (s' : Int)) = false := h1
    have h1 : s ≠ s' := by rw [beq_eq_false_iff_ne] at h1; omega
    have h2 : ((k : Int) != 2) = true := h2
    have h2' : (k == 2) = false := by rw [bne_iff_ne] at h2; rw [beq_eq_false_iff_ne]; omega
    rw [if_neg h1, h2']; rfl
  · rename_i h1 h2 h3
    have h1 : ((s : Int) == (s' : Int)) = false := h1
    have h1 : s ≠ s' := by rw [beq_eq_false_iff_ne] at h1; omega
    have h3 : ((k' : Int) != 2) = true := h3
    have h3' : (k' == 2) = false := by rw [bne_iff_ne] at h3; rw [beq_eq_false_iff_ne]; omega
    rw [if_neg h1, h3', Bool.and_false]; rfl
  · rename_i h1 h2 h3
    have h1 : ((s : Int) == (s' : Int)) = false := h1
    have h1 : s ≠ s' := by rw [beq_eq_false_iff_ne] at h1; omega
    have h2 : ((k : Int) != 2) = false := h2
    have h2' : (k == 2) = true := by rw [bne_eq_false_iff_eq] at h2; rw [beq_iff_eq]; omega
    have h3 : ((k' : Int) != 2) = false := h3
    have h3' : (k' == 2) = true := by rw [bne_eq_false_iff_eq] at h3; rw [beq_iff_eq]; omega
    rw [if_neg h1, h2', h3']
    refine Tr.drawn ( DSq.ev tab_ok rfl rfl <| DSq.ev tab_ok rfl rfl <| DSq.ev tab_ok rfl rfl <| DSq.ev tab_ok rfl rfl <| DSq.ev tab_ok rfl rfl <| DSq.ev tab_ok rfl rfl <| DSq.ev tab_ok rfl rfl <| DSq.one rfl (fun q K hK => Sq.index (x := intT v) tab_ok rfl (by omega) (hve) rfl (Sq.nil hK)) <| DSq.ev tab_ok rfl rfl <| DSq.ev tab_ok rfl rfl <| DSq.ev tab_ok rfl rfl <| DSq.ev tab_ok rfl rfl <| DSq.ev tab_ok rfl rfl <| DSq.ev tab_ok rfl rfl <| DSq.ev tab_ok rfl rfl <| DSq.one rfl (fun q K hK => Sq.index (x := intT w) tab_ok rfl (by omega) (hwe) rfl (Sq.nil hK)) <| DSq.ev tab_ok rfl rfl <| DSq.call rfl (fun _ => rfl) (hF) <| DSq.ev tab_ok rfl rfl <| DSq.ev tab_ok rfl rfl <| DSq.nil _) mix_ok rfl ?_
    repeat' (first | refine Tr.seq ?_ | refine Tr.region ?_ | refine Sq.ev tab_ok rfl rfl ?_ | refine Sq.nil ?_ | (refine Sq.guard rfl rfl (fun _ => ?_) (fun _ => ?_) <;> refine Sq.ev tab_ok rfl rfl ?_) | (refine Tr.cond rfl (fun _ => ?_) (fun _ => ?_) <;> try (rename_i h; cases h; done)) | refine Tr.block ?_ | refine Tr.skip ?_ | refine Tr.ret ⟨_, rfl, ?_⟩)
    rfl
theorem refPGraph_ok (f t : List Int) (l : List Stp) (e : List (Nat × Nat)) :
    Fn Tryz.prog Gw 25 [.tr (plnT ⟨f, t, l, e⟩)] [] (· = .tr (grT l.length e)) := by
  refine Fn.of tab_ok Tryz.func25 rfl (by decide) (by simp [Tryz.f25]) rfl (fun κ v h => by cases h) Gw.below ?_
  repeat' (first | refine Tr.seq ?_ | refine Tr.region ?_ | refine Sq.ev tab_ok rfl rfl ?_ | refine Sq.nil ?_ | (refine Sq.guard rfl rfl (fun _ => ?_) (fun _ => ?_) <;> refine Sq.ev tab_ok rfl rfl ?_) | (refine Tr.cond rfl (fun _ => ?_) (fun _ => ?_) <;> try (rename_i h; cases h; done)) | refine Tr.block ?_ | refine Tr.skip ?_ | refine Tr.ret ⟨_, rfl, ?_⟩)
  show AV.tr (.ag [.sc (.int .i64 ((l.map stpT).length : Int)), _]) = _
  rw [List.length_map]
set_option maxRecDepth 8192 in
theorem refMake_ok {c : Ctl} (hok : Ctl.ok c) (hc : c.length ≤ 12) (hlv : LvOk c) (f t : List Int) (cyc : Bool) (hcyc : cyc = true ↔ CycP (stepsV c f t).length (befV c f t)) (hfl : f.length ≤ 1000) (htl : t.length ≤ 1000) :
    Fn Tryz.prog Gw 15 [.tr (ctlT c), .tr (.ls (f.map intT)), .tr (.ls (t.map intT))] [] (· = .tup [.tr (plnT (makeP c f t cyc)), int (makeZ c f t cyc)]) := by
  have hE := refEnds_ok hok (by omega) hlv f t
  unfold makeP makeZ
  by_cases he : endsV c f t ≠ 0
  · generalize endsV c f t = z at *
    rw [if_neg he, if_neg he]
    refine Fn.of tab_ok Tryz.func15 rfl (by decide) (by simp [Tryz.f15]) rfl (fun κ v h => by cases h) Gw.below ?_
    repeat' (first | refine Tr.seq ?_ | refine Tr.region ?_ | refine Sq.ev tab_ok rfl rfl ?_ | refine Sq.nil ?_ | (refine Sq.guard rfl rfl (fun _ => ?_) (fun _ => ?_) <;> refine Sq.ev tab_ok rfl rfl ?_) | (refine Tr.cond rfl (fun _ => ?_) (fun _ => ?_) <;> try (rename_i h; cases h; done)) | refine Tr.block ?_ | refine Tr.skip ?_ | refine Tr.ret ⟨_, rfl, ?_⟩)
    refine Sq.callv rfl (hE) ?_
    repeat' (first | refine Tr.seq ?_ | refine Tr.region ?_ | refine Sq.ev tab_ok rfl rfl ?_ | refine Sq.nil ?_ | (refine Sq.guard rfl rfl (fun _ => ?_) (fun _ => ?_) <;> refine Sq.ev tab_ok rfl rfl ?_) | (refine Tr.cond rfl (fun _ => ?_) (fun _ => ?_) <;> try (rename_i h; cases h; done)) | refine Tr.block ?_ | refine Tr.skip ?_ | refine Tr.ret ⟨_, rfl, ?_⟩)
    · rfl
    all_goals
      rename_i h
      have h : (z != 0) = false := h
      simp at h; exact absurd h he
  have he : endsV c f t = 0 := Classical.not_not.1 he
  rw [he] at hE
  rw [if_pos he]
  have hends := ends0 he
  have hf12 : f.length ≤ 12 := by have := (rightV_at hends.rf).1; omega
  have htf : t.length = f.length := (rightV_at hends.rt).1.trans (rightV_at hends.rf).1.symm
  have hS := refSteps_ok hlv hends.rf hends.rt hfl hends.rise
  obtain ⟨hl36, hin⟩ := steps_facts (c := c) (t := t) hf12
  obtain ⟨hb200, _⟩ := bef_bound (c := c) (t := t) hf12
  have hbp := bef_p c f t
  have hO := Circle_ok _ _ (by omega) (by omega) hbp cyc hcyc
  unfold planV
  rw [show befV c f t = befUp c f t (stepsV c f t) (stepsV c f t).length from rfl] at *
  generalize stepsV c f t = l at *
  have hGr := refPGraph_ok f t l (befUp c f t l l.length)
  refine Fn.of tab_ok Tryz.func15 rfl (by decide) (by simp [Tryz.f15]) rfl (fun κ v h => by cases h) Gw.below ?_
  repeat' (first | refine Tr.seq ?_ | refine Tr.region ?_ | refine Sq.ev tab_ok rfl rfl ?_ | refine Sq.nil ?_ | (refine Sq.guard rfl rfl (fun _ => ?_) (fun _ => ?_) <;> refine Sq.ev tab_ok rfl rfl ?_) | (refine Tr.cond rfl (fun _ => ?_) (fun _ => ?_) <;> try (rename_i h; cases h; done)) | refine Tr.block ?_ | refine Tr.skip ?_ | refine Tr.ret ⟨_, rfl, ?_⟩)
  refine Sq.callv rfl (hE) ?_
  repeat' (first | refine Tr.seq ?_ | refine Tr.region ?_ | refine Sq.ev tab_ok rfl rfl ?_ | refine Sq.nil ?_ | (refine Sq.guard rfl rfl (fun _ => ?_) (fun _ => ?_) <;> refine Sq.ev tab_ok rfl rfl ?_) | (refine Tr.cond rfl (fun _ => ?_) (fun _ => ?_) <;> try (rename_i h; cases h; done)) | refine Tr.block ?_ | refine Tr.skip ?_ | refine Tr.ret ⟨_, rfl, ?_⟩)
  refine Sq.callv rfl (hS) ?_
  refine Sq.buildN tab_ok rfl rfl ?_
  refine Sq.ev tab_ok rfl rfl ?_
  refine Sq.ev tab_ok rfl rfl ?_
  refine Sq.nil ?_
  refine Tr.turn (fun Γ a w h => RelX.nilOwn tab_ok h (.l 9) 41 66 [_, _, _] [] rfl rfl rfl) ?_
  repeat' (first | refine Tr.seq ?_ | refine Tr.region ?_ | refine Sq.ev tab_ok rfl rfl ?_ | refine Sq.nil ?_ | (refine Sq.guard rfl rfl (fun _ => ?_) (fun _ => ?_) <;> refine Sq.ev tab_ok rfl rfl ?_) | (refine Tr.cond rfl (fun _ => ?_) (fun _ => ?_) <;> try (rename_i h; cases h; done)) | refine Tr.block ?_ | refine Tr.skip ?_ | refine Tr.ret ⟨_, rfl, ?_⟩)
  refine Tr.loopS (fun i : Nat => [(.s 3, .ptr (.l 3) 0), (.l 3, .blk 29 [.tr (.ls (c.map svcT))]), (.s 6, .ptr (.l 6) 0), (.l 6, .blk 41 [.own 3 [], .own 3 [], .own 115 [], .own 66 []]), (.s 9, .ptr (.l 9) 0), (.l 9, .blk 41 [.tr (.ls (f.map intT)), .tr (.ls (t.map intT)), .tr (.ls (l.map stpT)), .own 66 ((befUp c f t l i).map edT)]), (.s 10, int i)]) (fun i => l.length - i) (fun i => i ≤ l.length)
    0 (by omega) (Sub.app (l := [_, _, _, _, _, _, _]) (H := []) ⟨rfl, rfl, rfl, rfl, rfl, rfl, rfl, trivial⟩ (fun κ v h => nomatch h)) ?_
  rintro i hi
  have hbl := befUp_len c f t l i
  have hbl2 : i * l.length ≤ 36 * 36 := Nat.mul_le_mul (by omega) hl36
  repeat' (first | refine Tr.seq ?_ | refine Tr.region ?_ | refine Sq.ev tab_ok rfl rfl ?_ | refine Sq.nil ?_ | (refine Sq.guard rfl rfl (fun _ => ?_) (fun _ => ?_) <;> refine Sq.ev tab_ok rfl rfl ?_) | (refine Tr.cond rfl (fun _ => ?_) (fun _ => ?_) <;> try (rename_i h; cases h; done)) | refine Tr.block ?_ | refine Tr.skip ?_ | refine Tr.ret ⟨_, rfl, ?_⟩)
  · rename_i h2
    have h2 : decide ((i : Int) < ((l.map stpT).length : Int)) = true := h2
    have hlt : i < l.length := by simp only [List.length_map, decide_eq_true_eq] at h2; omega
    obtain ⟨a, ha⟩ : ∃ a, l[i]? = some a := ⟨_, List.getElem?_eq_getElem hlt⟩
    have hae : (l.map stpT)[((i : Nat) : Int).toNat]? = some (stpT a) := by simp [ha]
    obtain ⟨a1, a2⟩ := hin a (List.mem_of_getElem? ha)
    refine Tr.loopS (fun k : Nat => [(.s 3, .ptr (.l 3) 0), (.l 3, .blk 29 [.tr (.ls (c.map svcT))]), (.s 6, .ptr (.l 6) 0), (.l 6, .blk 41 [.own 3 [], .own 3 [], .own 115 [], .own 66 []]), (.s 9, .ptr (.l 9) 0), (.l 9, .blk 41 [.tr (.ls (f.map intT)), .tr (.ls (t.map intT)), .tr (.ls (l.map stpT)), .own 66 ((befUp c f t l i ++ befRow c f t l i k).map edT)]), (.s 10, int i), (.s 11, int k)]) (fun k => l.length - k) (fun k => k ≤ l.length)
      0 (by omega) (Sub.app (l := [_, _, _, _, _, _, _, _]) (H := []) ⟨rfl, rfl, rfl, rfl, rfl, by rw [show befRow c f t l i 0 = [] from rfl, List.append_nil]; rfl, rfl, rfl, trivial⟩ (fun κ v h => nomatch h)) ?_
    rintro k hk
    have hrl := befRow_len c f t l i k
    repeat' (first | refine Tr.seq ?_ | refine Tr.region ?_ | refine Sq.ev tab_ok rfl rfl ?_ | refine Sq.nil ?_ | (refine Sq.guard rfl rfl (fun _ => ?_) (fun _ => ?_) <;> refine Sq.ev tab_ok rfl rfl ?_) | (refine Tr.cond rfl (fun _ => ?_) (fun _ => ?_) <;> try (rename_i h; cases h; done)) | refine Tr.block ?_ | refine Tr.skip ?_ | refine Tr.ret ⟨_, rfl, ?_⟩)
    · rename_i h3
      have h3 : decide ((k : Int) < ((l.map stpT).length : Int)) = true := h3
      have hlt2 : k < l.length := by simp only [List.length_map, decide_eq_true_eq] at h3; omega
      obtain ⟨b, hb⟩ : ∃ b, l[k]? = some b := ⟨_, List.getElem?_eq_getElem hlt2⟩
      have hbe : (l.map stpT)[((k : Nat) : Int).toNat]? = some (stpT b) := by simp [hb]
      obtain ⟨b1, b2⟩ := hin b (List.mem_of_getElem? hb)
      have hAh := Must_ok hok f t l (befUp c f t l i ++ befRow c f t l i k) a2 b2 a1 (by omega)
      have hsucc := befRow_succ (c := c) (f := f) (t := t) ha hb
      cases hx : aheadS c f t a b
      · rw [hx] at hAh hsucc
        refine Tr.drawn ( DSq.ev tab_ok rfl rfl <| DSq.ev tab_ok rfl rfl <| DSq.ev tab_ok rfl rfl <| DSq.ev tab_ok rfl rfl <| DSq.ev tab_ok rfl rfl <| DSq.one rfl (fun q K hK => Sq.index (x := stpT a) tab_ok rfl (by omega) (hae) rfl (Sq.nil hK)) <| DSq.ev tab_ok rfl rfl <| DSq.ev tab_ok rfl rfl <| DSq.ev tab_ok rfl rfl <| DSq.ev tab_ok rfl rfl <| DSq.one rfl (fun q K hK => Sq.index (x := stpT b) tab_ok rfl (by omega) (hbe) rfl (Sq.nil hK)) <| DSq.ev tab_ok rfl rfl <| DSq.call rfl (fun _ => rfl) (hAh) <| DSq.nil _) mix_ok rfl ?_
        repeat' (first | refine Tr.seq ?_ | refine Tr.region ?_ | refine Sq.ev tab_ok rfl rfl ?_ | refine Sq.nil ?_ | (refine Sq.guard rfl rfl (fun _ => ?_) (fun _ => ?_) <;> refine Sq.ev tab_ok rfl rfl ?_) | (refine Tr.cond rfl (fun _ => ?_) (fun _ => ?_) <;> try (rename_i h; cases h; done)) | refine Tr.block ?_ | refine Tr.skip ?_ | refine Tr.ret ⟨_, rfl, ?_⟩)
        exact ⟨k + 1, by omega, by omega, Sub.app (l := [_, _, _, _, _, _, _, _]) (H := []) ⟨rfl, rfl, rfl, rfl, rfl, by rw [hsucc]; simp; rfl, rfl, congrArg some (wrapz (by omega) (by omega) (by omega)), trivial⟩ (fun κ v h => nomatch h)⟩
      · rw [hx] at hAh hsucc
        refine Tr.drawn ( DSq.ev tab_ok rfl rfl <| DSq.ev tab_ok rfl rfl <| DSq.ev tab_ok rfl rfl <| DSq.ev tab_ok rfl rfl <| DSq.ev tab_ok rfl rfl <| DSq.one rfl (fun q K hK => Sq.index (x := stpT a) tab_ok rfl (by omega) (hae) rfl (Sq.nil hK)) <| DSq.ev tab_ok rfl rfl <| DSq.ev tab_ok rfl rfl <| DSq.ev tab_ok rfl rfl <| DSq.ev tab_ok rfl rfl <| DSq.one rfl (fun q K hK => Sq.index (x := stpT b) tab_ok rfl (by omega) (hbe) rfl (Sq.nil hK)) <| DSq.ev tab_ok rfl rfl <| DSq.call rfl (fun _ => rfl) (hAh) <| DSq.nil _) mix_ok rfl ?_
        repeat' (first | refine Tr.seq ?_ | refine Tr.region ?_ | refine Sq.ev tab_ok rfl rfl ?_ | refine Sq.nil ?_ | (refine Sq.guard rfl rfl (fun _ => ?_) (fun _ => ?_) <;> refine Sq.ev tab_ok rfl rfl ?_) | (refine Tr.cond rfl (fun _ => ?_) (fun _ => ?_) <;> try (rename_i h; cases h; done)) | refine Tr.block ?_ | refine Tr.skip ?_ | refine Tr.ret ⟨_, rfl, ?_⟩)
        refine Sq.append tab_ok rfl (fun y hy => by simp only [List.mem_singleton] at hy; subst hy; rfl) (by simp; omega) ?_
        repeat' (first | refine Tr.seq ?_ | refine Tr.region ?_ | refine Sq.ev tab_ok rfl rfl ?_ | refine Sq.nil ?_ | (refine Sq.guard rfl rfl (fun _ => ?_) (fun _ => ?_) <;> refine Sq.ev tab_ok rfl rfl ?_) | (refine Tr.cond rfl (fun _ => ?_) (fun _ => ?_) <;> try (rename_i h; cases h; done)) | refine Tr.block ?_ | refine Tr.skip ?_ | refine Tr.ret ⟨_, rfl, ?_⟩)
        exact ⟨k + 1, by omega, by omega, Sub.app (l := [_, _, _, _, _, _, _, _]) (H := []) ⟨rfl, rfl, rfl, rfl, rfl, by rw [hsucc, ← List.append_assoc, List.map_append (l₁ := befUp c f t l i ++ befRow c f t l i k)]; rfl, rfl, congrArg some (wrapz (by omega) (by omega) (by omega)), trivial⟩ (fun κ v h => nomatch h)⟩
    · rename_i h3
      have h3 : decide ((k : Int) < ((l.map stpT).length : Int)) = false := h3
      have : k = l.length := by simp only [List.length_map, decide_eq_false_iff_not] at h3; omega
      subst this
      refine Tr.exit ?_
      repeat' (first | refine Tr.seq ?_ | refine Tr.region ?_ | refine Sq.ev tab_ok rfl rfl ?_ | refine Sq.nil ?_ | (refine Sq.guard rfl rfl (fun _ => ?_) (fun _ => ?_) <;> refine Sq.ev tab_ok rfl rfl ?_) | (refine Tr.cond rfl (fun _ => ?_) (fun _ => ?_) <;> try (rename_i h; cases h; done)) | refine Tr.block ?_ | refine Tr.skip ?_ | refine Tr.ret ⟨_, rfl, ?_⟩)
      exact ⟨i + 1, by omega, by omega, Sub.app (l := [_, _, _, _, _, _, _]) (H := []) ⟨rfl, rfl, rfl, rfl, rfl, by rw [befUp_succ]; rfl, congrArg some (wrapz (by omega) (by omega) (by omega)), trivial⟩ (fun κ v h => nomatch h)⟩
  · rename_i h2
    have h2 : decide ((i : Int) < ((l.map stpT).length : Int)) = false := h2
    have : i = l.length := by simp only [List.length_map, decide_eq_false_iff_not] at h2; omega
    subst this
    refine Tr.exit ?_
    repeat' (first | refine Tr.seq ?_ | refine Tr.region ?_ | refine Sq.ev tab_ok rfl rfl ?_ | refine Sq.nil ?_ | (refine Sq.guard rfl rfl (fun _ => ?_) (fun _ => ?_) <;> refine Sq.ev tab_ok rfl rfl ?_) | (refine Tr.cond rfl (fun _ => ?_) (fun _ => ?_) <;> try (rename_i h; cases h; done)) | refine Tr.block ?_ | refine Tr.skip ?_ | refine Tr.ret ⟨_, rfl, ?_⟩)
    refine Sq.callv rfl (hGr) ?_
    refine Sq.callv rfl (hO) ?_
    cases cyc
    · repeat' (first | refine Tr.seq ?_ | refine Tr.region ?_ | refine Sq.ev tab_ok rfl rfl ?_ | refine Sq.nil ?_ | (refine Sq.guard rfl rfl (fun _ => ?_) (fun _ => ?_) <;> refine Sq.ev tab_ok rfl rfl ?_) | (refine Tr.cond rfl (fun _ => ?_) (fun _ => ?_) <;> try (rename_i h; cases h; done)) | refine Tr.block ?_ | refine Tr.skip ?_ | refine Tr.ret ⟨_, rfl, ?_⟩)
      rfl
    · repeat' (first | refine Tr.seq ?_ | refine Tr.region ?_ | refine Sq.ev tab_ok rfl rfl ?_ | refine Sq.nil ?_ | (refine Sq.guard rfl rfl (fun _ => ?_) (fun _ => ?_) <;> refine Sq.ev tab_ok rfl rfl ?_) | (refine Tr.cond rfl (fun _ => ?_) (fun _ => ?_) <;> try (rename_i h; cases h; done)) | refine Tr.block ?_ | refine Tr.skip ?_ | refine Tr.ret ⟨_, rfl, ?_⟩)
      rfl
end Go.Lg.Tryz

set_option linter.unusedVariables false
set_option linter.unusedSimpArgs false
namespace Go.Lg.Tryz
open Go Go.Proofs Go.RowKit Go.Lib Go.Lg.Sem
theorem Ints_ok (a b : List Int) (hl : a.length ≤ 1000000) : Fn Tryz.prog Gw 52 [.tr (.ls (a.map intT)), .tr (.ls (b.map intT))] [] (· = bool (decide (a = b))) := by
  refine Fn.of tab_ok Tryz.func52 rfl (by decide) (by simp [Tryz.f52]) rfl (fun κ v h => by cases h) Gw.below ?_
  repeat' (first | refine Tr.seq ?_ | refine Tr.region ?_ | refine Sq.ev tab_ok rfl rfl ?_ | refine Sq.nil ?_ | (refine Sq.guard rfl rfl (fun _ => ?_) (fun _ => ?_) <;> refine Sq.ev tab_ok rfl rfl ?_) | (refine Tr.cond rfl (fun _ => ?_) (fun _ => ?_) <;> try (rename_i h; cases h; done)) | refine Tr.block ?_ | refine Tr.skip ?_ | refine Tr.ret ⟨_, rfl, ?_⟩)
  · rename_i h1
    have h1 : (((a.map intT).length : Int) != ((b.map intT).length : Int)) = true := h1
    have hne : a ≠ b := fun e => by subst e; simp at h1
    show bool false = _
    rw [decide_eq_false hne]
  rename_i h1
  have h1 : (((a.map intT).length : Int) != ((b.map intT).length : Int)) = false := h1
  have hlen : a.length = b.length := by simp only [List.length_map, bne_eq_false_iff_eq] at h1; omega
  refine Tr.loopS (fun i : Nat => [(.s 1, .tr (.ls (b.map intT))), (.s 12, .tr (.ls (a.map intT))), (.s 13, int (a.map intT).length), (.s 14, int i)]) (fun i => a.length - i) (fun i => i ≤ a.length ∧ a.take i = b.take i)
    0 ⟨by omega, rfl⟩ (Sub.app (l := [_, _, _, _]) (H := []) ⟨rfl, rfl, rfl, rfl, trivial⟩ (fun κ v h => nomatch h)) ?_
  rintro i ⟨hi, htk⟩
  repeat' (first | refine Tr.seq ?_ | refine Tr.region ?_ | refine Sq.ev tab_ok rfl rfl ?_ | refine Sq.nil ?_ | (refine Sq.guard rfl rfl (fun _ => ?_) (fun _ => ?_) <;> refine Sq.ev tab_ok rfl rfl ?_) | (refine Tr.cond rfl (fun _ => ?_) (fun _ => ?_) <;> try (rename_i h; cases h; done)) | refine Tr.block ?_ | refine Tr.skip ?_ | refine Tr.ret ⟨_, rfl, ?_⟩)
  · rename_i h2
    have hlt : i < a.length := by simp only [List.length_map, decide_eq_true_eq] at h2; omega
    obtain ⟨x, hx⟩ : ∃ x, a[i]? = some x := ⟨_, List.getElem?_eq_getElem hlt⟩
    obtain ⟨y, hy⟩ : ∃ x, b[i]? = some x := ⟨_, List.getElem?_eq_getElem (by omega)⟩
    have hxe : (a.map intT)[((i : Nat) : Int).toNat]? = some (intT x) := by simp [hx]
    have hye : (b.map intT)[((i : Nat) : Int).toNat]? = some (intT y) := by simp [hy]
    refine Sq.index (x := intT x) tab_ok rfl (by omega) (hxe) rfl ?_
    repeat' (first | refine Tr.seq ?_ | refine Tr.region ?_ | refine Sq.ev tab_ok rfl rfl ?_ | refine Sq.nil ?_ | (refine Sq.guard rfl rfl (fun _ => ?_) (fun _ => ?_) <;> refine Sq.ev tab_ok rfl rfl ?_) | (refine Tr.cond rfl (fun _ => ?_) (fun _ => ?_) <;> try (rename_i h; cases h; done)) | refine Tr.block ?_ | refine Tr.skip ?_ | refine Tr.ret ⟨_, rfl, ?_⟩)
    refine Sq.index (x := intT y) tab_ok rfl (by omega) (hye) rfl ?_
    repeat' (first | refine Tr.seq ?_ | refine Tr.region ?_ | refine Sq.ev tab_ok rfl rfl ?_ | refine Sq.nil ?_ | (refine Sq.guard rfl rfl (fun _ => ?_) (fun _ => ?_) <;> refine Sq.ev tab_ok rfl rfl ?_) | (refine Tr.cond rfl (fun _ => ?_) (fun _ => ?_) <;> try (rename_i h; cases h; done)) | refine Tr.block ?_ | refine Tr.skip ?_ | refine Tr.ret ⟨_, rfl, ?_⟩)
    · rename_i h3
      have h3 : (x != y) = true := h3
      show bool false = _
      rw [decide_eq_false (fun e => by rw [e, hy] at hx; rw [Option.some.inj hx] at h3; simp at h3)]
    · rename_i h3
      have h3 : (x != y) = false := h3
      refine ⟨i + 1, ⟨by omega, ?_⟩, by omega, Sub.app (l := [_, _, _, _]) (H := []) ⟨rfl, rfl, rfl, congrArg some (wrapz (by omega) (by omega) (by omega)), trivial⟩ (fun κ v h => nomatch h)⟩
      simp only [bne_eq_false_iff_eq] at h3
      rw [List.take_add_one, List.take_add_one, htk, hx, hy, h3]
  · rename_i h2
    have : i = a.length := by simp only [List.length_map, decide_eq_false_iff_not] at h2; omega
    subst this
    refine Tr.exit ?_
    repeat' (first | refine Tr.seq ?_ | refine Tr.region ?_ | refine Sq.ev tab_ok rfl rfl ?_ | refine Sq.nil ?_ | (refine Sq.guard rfl rfl (fun _ => ?_) (fun _ => ?_) <;> refine Sq.ev tab_ok rfl rfl ?_) | (refine Tr.cond rfl (fun _ => ?_) (fun _ => ?_) <;> try (rename_i h; cases h; done)) | refine Tr.block ?_ | refine Tr.skip ?_ | refine Tr.ret ⟨_, rfl, ?_⟩)
    show bool true = _
    rw [List.take_of_length_le (Nat.le_refl _), List.take_of_length_le (by omega)] at htk
    rw [decide_eq_true htk]
def plainB (f t : List Int) (l : List Stp) (e : List (Nat × Nat)) : Bool := decide (f.length ≤ 30) && (decide (t.length ≤ 30) && (decide (l.length ≤ 40) && decide (e.length ≤ 200)))
set_option maxRecDepth 8192 in
theorem plain_ok (f t : List Int) (l : List Stp) (e : List (Nat × Nat)) (hl : l.length ≤ 1000000) :
    Fn Tryz.prog Gw 19 [.tr (plnT ⟨f, t, l, e⟩)] [] (· = .tup [.tr (plnT ⟨f, t, l, e⟩), bool (plainB f t l e)]) := by
  refine Fn.of tab_ok Tryz.func19 rfl (by decide) (by simp [Tryz.f19]) rfl (fun κ v h => by cases h) Gw.below ?_
  refine Tr.seq ?_
  refine Tr.region ?_
  refine Sq.ev tab_ok rfl rfl ?_
  refine Sq.ev tab_ok rfl rfl ?_
  refine Sq.ev tab_ok rfl rfl ?_
  refine Sq.nil ?_
  refine Tr.seq ?_
  refine Tr.region ?_
  refine Sq.ev tab_ok rfl rfl ?_
  refine Sq.ev tab_ok rfl rfl ?_
  refine Sq.ev tab_ok rfl rfl ?_
  refine Sq.ev tab_ok rfl rfl ?_
  refine Sq.ev tab_ok rfl rfl ?_
  refine Sq.ev tab_ok rfl rfl ?_
  refine Sq.buildN tab_ok rfl rfl ?_
  refine Sq.ev tab_ok rfl rfl ?_
  refine Sq.ev tab_ok rfl rfl ?_
  refine Sq.nil ?_
  refine Tr.turn (fun Γ a w h => RelX.nilOwn tab_ok h (.l 4) 41 115 [_, _] [_] rfl rfl rfl) ?_
  repeat' (first | refine Tr.seq ?_ | refine Tr.region ?_ | refine Sq.ev tab_ok rfl rfl ?_ | refine Sq.nil ?_ | (refine Sq.guard rfl rfl (fun _ => ?_) (fun _ => ?_) <;> refine Sq.ev tab_ok rfl rfl ?_) | (refine Tr.cond rfl (fun _ => ?_) (fun _ => ?_) <;> try (rename_i h; cases h; done)) | refine Tr.block ?_ | refine Tr.skip ?_ | refine Tr.ret ⟨_, rfl, ?_⟩)
  refine Tr.loopS (fun i : Nat => [(.s 1, .ptr (.l 1) 0), (.l 1, .blk 35 [.tr (.ls (f.map intT)), .tr (.ls (t.map intT)), .tr (.ls (l.map stpT)), .tr (.ls (e.map edT))]), (.s 2, .ptr (.l 2) 0), (.l 2, .blk 41 [.own 3 [], .own 3 [], .own 115 [], .own 66 []]), (.s 4, .ptr (.l 4) 0), (.l 4, .blk 41 [.tr (.ls (f.map intT)), .tr (.ls (t.map intT)), .own 115 ((l.take i).map stpT), .tr (.ls (e.map edT))]), (.s 15, .tr (.ls (l.map stpT))), (.s 16, int (l.map stpT).length), (.s 17, int i)]) (fun i => l.length - i) (fun i => i ≤ l.length)
    0 (by omega) (Sub.app (l := [_, _, _, _, _, _, _, _, _]) (H := []) ⟨rfl, rfl, rfl, rfl, rfl, rfl, rfl, rfl, rfl, trivial⟩ (fun κ v h => nomatch h)) ?_
  rintro i hi
  repeat' (first | refine Tr.seq ?_ | refine Tr.region ?_ | refine Sq.ev tab_ok rfl rfl ?_ | refine Sq.nil ?_ | (refine Sq.guard rfl rfl (fun _ => ?_) (fun _ => ?_) <;> refine Sq.ev tab_ok rfl rfl ?_) | (refine Tr.cond rfl (fun _ => ?_) (fun _ => ?_) <;> try (rename_i h; cases h; done)) | refine Tr.block ?_ | refine Tr.skip ?_ | refine Tr.ret ⟨_, rfl, ?_⟩)
  · rename_i h2
    have h2 : decide ((i : Int) < ((l.map stpT).length : Int)) = true := h2
    have hlt : i < l.length := by simp only [List.length_map, decide_eq_true_eq] at h2; omega
    obtain ⟨a, ha⟩ : ∃ a, l[i]? = some a := ⟨_, List.getElem?_eq_getElem hlt⟩
    have hae : (l.map stpT)[((i : Nat) : Int).toNat]? = some (stpT a) := by simp [ha]
    have htk : l.take (i + 1) = l.take i ++ [a] := by rw [List.take_add_one, ha]; rfl
    refine Sq.index (x := stpT a) tab_ok rfl (by omega) (hae) rfl ?_
    repeat' (first | refine Tr.seq ?_ | refine Tr.region ?_ | refine Sq.ev tab_ok rfl rfl ?_ | refine Sq.nil ?_ | (refine Sq.guard rfl rfl (fun _ => ?_) (fun _ => ?_) <;> refine Sq.ev tab_ok rfl rfl ?_) | (refine Tr.cond rfl (fun _ => ?_) (fun _ => ?_) <;> try (rename_i h; cases h; done)) | refine Tr.block ?_ | refine Tr.skip ?_ | refine Tr.ret ⟨_, rfl, ?_⟩)
    refine Sq.append tab_ok rfl (fun y hy => by simp only [List.mem_singleton] at hy; subst hy; rfl) (by simp; omega) ?_
    repeat' (first | refine Tr.seq ?_ | refine Tr.region ?_ | refine Sq.ev tab_ok rfl rfl ?_ | refine Sq.nil ?_ | (refine Sq.guard rfl rfl (fun _ => ?_) (fun _ => ?_) <;> refine Sq.ev tab_ok rfl rfl ?_) | (refine Tr.cond rfl (fun _ => ?_) (fun _ => ?_) <;> try (rename_i h; cases h; done)) | refine Tr.block ?_ | refine Tr.skip ?_ | refine Tr.ret ⟨_, rfl, ?_⟩)
    exact ⟨i + 1, by omega, by omega, Sub.app (l := [_, _, _, _, _, _, _, _, _]) (H := []) ⟨rfl, rfl, rfl, rfl, rfl, by rw [htk, List.map_append]; rfl, rfl, rfl, congrArg some (wrapz (by omega) (by omega) (by omega)), trivial⟩ (fun κ v h => nomatch h)⟩
  · rename_i h2
    have h2 : decide ((i : Int) < ((l.map stpT).length : Int)) = false := h2
    have : i = l.length := by simp only [List.length_map, decide_eq_false_iff_not] at h2; omega
    subst this
    refine Tr.exit ?_
    rw [List.take_of_length_le (Nat.le_refl _)]
    have ei : ∀ {α : Type} (g : α → T) (xs : List α) (k : Nat), decide (((xs.map g).length : Int) ≤ (k : Int)) = decide (xs.length ≤ k) := fun g xs k => by
      rw [List.length_map]; simp
    unfold plainB
    cases d1 : decide (f.length ≤ 30)
    · have d1 := (ei intT f 30).trans d1
      refine Tr.seq ?_
      refine Tr.drawn ( DSq.ev tab_ok rfl rfl <| DSq.ev tab_ok rfl rfl <| DSq.ev tab_ok rfl rfl <| DSq.ev tab_ok rfl rfl <| DSq.evr tab_ok rfl (congrArg bool d1) <| DSq.ev tab_ok rfl rfl <| DSq.ev tab_ok rfl rfl <| DSq.ev tab_ok rfl rfl <| DSq.ev tab_ok rfl rfl <| DSq.ev tab_ok rfl rfl <| DSq.ev tab_ok rfl rfl <| DSq.ev tab_ok rfl rfl <| DSq.ev tab_ok rfl rfl <| DSq.ev tab_ok rfl rfl <| DSq.ev tab_ok rfl rfl <| DSq.ev tab_ok rfl rfl <| DSq.ev tab_ok rfl rfl <| DSq.ev tab_ok rfl rfl <| DSq.ev tab_ok rfl rfl <| DSq.ev tab_ok rfl rfl <| DSq.ev tab_ok rfl rfl <| DSq.ev tab_ok rfl rfl <| DSq.ev tab_ok rfl rfl <| DSq.ev tab_ok rfl rfl <| DSq.ev tab_ok rfl rfl <| DSq.nil _) mix_ok rfl ?_
      repeat' (first | refine Tr.seq ?_ | refine Tr.region ?_ | refine Sq.ev tab_ok rfl rfl ?_ | refine Sq.nil ?_ | (refine Sq.guard rfl rfl (fun _ => ?_) (fun _ => ?_) <;> refine Sq.ev tab_ok rfl rfl ?_) | (refine Tr.cond rfl (fun _ => ?_) (fun _ => ?_) <;> try (rename_i h; cases h; done)) | refine Tr.block ?_ | refine Tr.skip ?_ | refine Tr.ret ⟨_, rfl, ?_⟩)
      rfl
    have d1 := (ei intT f 30).trans d1
    cases d2 : decide (t.length ≤ 30)
    · have d2 := (ei intT t 30).trans d2
      refine Tr.seq ?_
      refine Tr.drawn ( DSq.ev tab_ok rfl rfl <| DSq.ev tab_ok rfl rfl <| DSq.ev tab_ok rfl rfl <| DSq.ev tab_ok rfl rfl <| DSq.evr tab_ok rfl (congrArg bool d1) <| DSq.ev tab_ok rfl rfl <| DSq.ev tab_ok rfl rfl <| DSq.ev tab_ok rfl rfl <| DSq.ev tab_ok rfl rfl <| DSq.evr tab_ok rfl (congrArg bool d2) <| DSq.ev tab_ok rfl rfl <| DSq.ev tab_ok rfl rfl <| DSq.ev tab_ok rfl rfl <| DSq.ev tab_ok rfl rfl <| DSq.ev tab_ok rfl rfl <| DSq.ev tab_ok rfl rfl <| DSq.ev tab_ok rfl rfl <| DSq.ev tab_ok rfl rfl <| DSq.ev tab_ok rfl rfl <| DSq.ev tab_ok rfl rfl <| DSq.ev tab_ok rfl rfl <| DSq.ev tab_ok rfl rfl <| DSq.ev tab_ok rfl rfl <| DSq.ev tab_ok rfl rfl <| DSq.ev tab_ok rfl rfl <| DSq.nil _) mix_ok rfl ?_
      repeat' (first | refine Tr.seq ?_ | refine Tr.region ?_ | refine Sq.ev tab_ok rfl rfl ?_ | refine Sq.nil ?_ | (refine Sq.guard rfl rfl (fun _ => ?_) (fun _ => ?_) <;> refine Sq.ev tab_ok rfl rfl ?_) | (refine Tr.cond rfl (fun _ => ?_) (fun _ => ?_) <;> try (rename_i h; cases h; done)) | refine Tr.block ?_ | refine Tr.skip ?_ | refine Tr.ret ⟨_, rfl, ?_⟩)
      rfl
    have d2 := (ei intT t 30).trans d2
    cases d3 : decide (l.length ≤ 40)
    · have d3 := (ei stpT l 40).trans d3
      refine Tr.seq ?_
      refine Tr.drawn ( DSq.ev tab_ok rfl rfl <| DSq.ev tab_ok rfl rfl <| DSq.ev tab_ok rfl rfl <| DSq.ev tab_ok rfl rfl <| DSq.evr tab_ok rfl (congrArg bool d1) <| DSq.ev tab_ok rfl rfl <| DSq.ev tab_ok rfl rfl <| DSq.ev tab_ok rfl rfl <| DSq.ev tab_ok rfl rfl <| DSq.evr tab_ok rfl (congrArg bool d2) <| DSq.ev tab_ok rfl rfl <| DSq.ev tab_ok rfl rfl <| DSq.ev tab_ok rfl rfl <| DSq.ev tab_ok rfl rfl <| DSq.ev tab_ok rfl rfl <| DSq.evr tab_ok rfl (congrArg bool d3) <| DSq.ev tab_ok rfl rfl <| DSq.ev tab_ok rfl rfl <| DSq.ev tab_ok rfl rfl <| DSq.ev tab_ok rfl rfl <| DSq.ev tab_ok rfl rfl <| DSq.ev tab_ok rfl rfl <| DSq.ev tab_ok rfl rfl <| DSq.ev tab_ok rfl rfl <| DSq.ev tab_ok rfl rfl <| DSq.nil _) mix_ok rfl ?_
      repeat' (first | refine Tr.seq ?_ | refine Tr.region ?_ | refine Sq.ev tab_ok rfl rfl ?_ | refine Sq.nil ?_ | (refine Sq.guard rfl rfl (fun _ => ?_) (fun _ => ?_) <;> refine Sq.ev tab_ok rfl rfl ?_) | (refine Tr.cond rfl (fun _ => ?_) (fun _ => ?_) <;> try (rename_i h; cases h; done)) | refine Tr.block ?_ | refine Tr.skip ?_ | refine Tr.ret ⟨_, rfl, ?_⟩)
      rfl
    have d3 := (ei stpT l 40).trans d3
    have d4 := ei edT e 200
    generalize decide (e.length ≤ 200) = b4 at *
    refine Tr.seq ?_
    refine Tr.drawn ( DSq.ev tab_ok rfl rfl <| DSq.ev tab_ok rfl rfl <| DSq.ev tab_ok rfl rfl <| DSq.ev tab_ok rfl rfl <| DSq.evr tab_ok rfl (congrArg bool d1) <| DSq.ev tab_ok rfl rfl <| DSq.ev tab_ok rfl rfl <| DSq.ev tab_ok rfl rfl <| DSq.ev tab_ok rfl rfl <| DSq.evr tab_ok rfl (congrArg bool d2) <| DSq.ev tab_ok rfl rfl <| DSq.ev tab_ok rfl rfl <| DSq.ev tab_ok rfl rfl <| DSq.ev tab_ok rfl rfl <| DSq.ev tab_ok rfl rfl <| DSq.evr tab_ok rfl (congrArg bool d3) <| DSq.ev tab_ok rfl rfl <| DSq.ev tab_ok rfl rfl <| DSq.ev tab_ok rfl rfl <| DSq.ev tab_ok rfl rfl <| DSq.ev tab_ok rfl rfl <| DSq.evr tab_ok rfl (congrArg bool d4) <| DSq.ev tab_ok rfl rfl <| DSq.ev tab_ok rfl rfl <| DSq.ev tab_ok rfl rfl <| DSq.nil _) mix_ok rfl ?_
    repeat' (first | refine Tr.seq ?_ | refine Tr.region ?_ | refine Sq.ev tab_ok rfl rfl ?_ | refine Sq.nil ?_ | (refine Sq.guard rfl rfl (fun _ => ?_) (fun _ => ?_) <;> refine Sq.ev tab_ok rfl rfl ?_) | (refine Tr.cond rfl (fun _ => ?_) (fun _ => ?_) <;> try (rename_i h; cases h; done)) | refine Tr.block ?_ | refine Tr.skip ?_ | refine Tr.ret ⟨_, rfl, ?_⟩)
    rfl
end Go.Lg.Tryz

set_option linter.unusedVariables false
set_option linter.unusedSimpArgs false
namespace Go.Lg.Tryz
open Go Go.Proofs Go.RowKit Go.Lib Go.Lg.Sem
theorem eqA_rstp (d : Nat) (w : World) (x0 y0 x1 y1 : Int) : (Op.equalIn (d + 2) 115 (.agg #[.int .i64 x0, .int .i64 x1]) (.agg #[.int .i64 y0, .int .i64 y1])).run Tryz.prog w = .ok (x0 == y0 && x1 == y1) w := by
  refine eqA_of Tryz.underlying115 (by kernel_rfl) ?_
  refine eqf_cons (by rfl) (by go_simp; rfl) (by go_simp; rfl) (by go_simp) ?_
  exact eqf_last (by rfl) (by go_simp; rfl) (by go_simp; rfl) (by go_simp)
set_option maxRecDepth 8192 in
theorem alike_ok (f t : List Int) (l : List Stp) (e : List (Nat × Nat)) (hp : plainB f t l e = true) :
    Fn Tryz.prog Gw 16 [.tr (plnT ⟨f, t, l, e⟩), .tr (plnT ⟨f, t, l, e⟩)] [] (· = bool true) := by
  have hp2 := hp
  unfold plainB at hp2
  simp only [Bool.and_eq_true, decide_eq_true_eq] at hp2
  obtain ⟨p1, p2, p3, p4⟩ := hp2
  have hP := plain_ok f t l e (by omega)
  rw [hp] at hP
  have hf := Ints_ok f f (by omega)
  rw [decide_eq_true rfl] at hf
  have ht := Ints_ok t t (by omega)
  rw [decide_eq_true rfl] at ht
  refine Fn.of tab_ok Tryz.func16 rfl (by decide) (by simp [Tryz.f16]) rfl (fun κ v h => by cases h) Gw.below ?_
  repeat' (first | refine Tr.seq ?_ | refine Tr.region ?_ | refine Sq.ev tab_ok rfl rfl ?_ | refine Sq.nil ?_ | (refine Sq.guard rfl rfl (fun _ => ?_) (fun _ => ?_) <;> refine Sq.ev tab_ok rfl rfl ?_) | (refine Tr.cond rfl (fun _ => ?_) (fun _ => ?_) <;> try (rename_i h; cases h; done)) | refine Tr.block ?_ | refine Tr.skip ?_ | refine Tr.ret ⟨_, rfl, ?_⟩)
  refine Sq.callv rfl (hP) ?_
  repeat' (first | refine Tr.seq ?_ | refine Tr.region ?_ | refine Sq.ev tab_ok rfl rfl ?_ | refine Sq.nil ?_ | (refine Sq.guard rfl rfl (fun _ => ?_) (fun _ => ?_) <;> refine Sq.ev tab_ok rfl rfl ?_) | (refine Tr.cond rfl (fun _ => ?_) (fun _ => ?_) <;> try (rename_i h; cases h; done)) | refine Tr.block ?_ | refine Tr.skip ?_ | refine Tr.ret ⟨_, rfl, ?_⟩)
  refine Sq.callv rfl (hf) ?_
  repeat' (first | refine Tr.seq ?_ | refine Tr.region ?_ | refine Sq.ev tab_ok rfl rfl ?_ | refine Sq.nil ?_ | (refine Sq.guard rfl rfl (fun _ => ?_) (fun _ => ?_) <;> refine Sq.ev tab_ok rfl rfl ?_) | (refine Tr.cond rfl (fun _ => ?_) (fun _ => ?_) <;> try (rename_i h; cases h; done)) | refine Tr.block ?_ | refine Tr.skip ?_ | refine Tr.ret ⟨_, rfl, ?_⟩)
  refine Sq.callv rfl (ht) ?_
  repeat' (first | refine Tr.seq ?_ | refine Tr.region ?_ | refine Sq.ev tab_ok rfl rfl ?_ | refine Sq.nil ?_ | (refine Sq.guard rfl rfl (fun _ => ?_) (fun _ => ?_) <;> refine Sq.ev tab_ok rfl rfl ?_) | (refine Tr.cond rfl (fun _ => ?_) (fun _ => ?_) <;> try (rename_i h; cases h; done)) | refine Tr.block ?_ | refine Tr.skip ?_ | refine Tr.ret ⟨_, rfl, ?_⟩)
  · rename_i h _; exfalso
    have h : (((l.map stpT).length : Int) != ((l.map stpT).length : Int)) = true := h
    simp at h
  · rename_i h; exfalso
    have h : (((e.map edT).length : Int) != ((e.map edT).length : Int)) = true := h
    simp at h
  refine Tr.loopS (fun i : Nat => [(.s 3, .ptr (.l 3) 0), (.l 3, .blk 41 [.tr (.ls (f.map intT)), .tr (.ls (t.map intT)), .tr (.ls (l.map stpT)), .tr (.ls (e.map edT))]), (.s 5, .ptr (.l 5) 0), (.l 5, .blk 41 [.tr (.ls (f.map intT)), .tr (.ls (t.map intT)), .tr (.ls (l.map stpT)), .tr (.ls (e.map edT))]), (.s 53, .tr (.ls (l.map stpT))), (.s 54, int (l.map stpT).length), (.s 55, int i)]) (fun i => l.length - i) (fun i => i ≤ l.length)
    0 (by omega) (Sub.app (l := [_, _, _, _, _, _, _]) (H := []) ⟨rfl, rfl, rfl, rfl, rfl, rfl, rfl, trivial⟩ (fun κ v h => nomatch h)) ?_
  rintro i hi
  repeat' (first | refine Tr.seq ?_ | refine Tr.region ?_ | refine Sq.ev tab_ok rfl rfl ?_ | refine Sq.nil ?_ | (refine Sq.guard rfl rfl (fun _ => ?_) (fun _ => ?_) <;> refine Sq.ev tab_ok rfl rfl ?_) | (refine Tr.cond rfl (fun _ => ?_) (fun _ => ?_) <;> try (rename_i h; cases h; done)) | refine Tr.block ?_ | refine Tr.skip ?_ | refine Tr.ret ⟨_, rfl, ?_⟩)
  · rename_i h2
    have h2 : decide ((i : Int) < ((l.map stpT).length : Int)) = true := h2
    have hlt : i < l.length := by simp only [List.length_map, decide_eq_true_eq] at h2; omega
    obtain ⟨a, ha⟩ : ∃ a, l[i]? = some a := ⟨_, List.getElem?_eq_getElem hlt⟩
    have hae : (l.map stpT)[((i : Nat) : Int).toNat]? = some (stpT a) := by simp [ha]
    refine Sq.index (x := stpT a) tab_ok rfl (by omega) (hae) rfl ?_
    repeat' (first | refine Tr.seq ?_ | refine Tr.region ?_ | refine Sq.ev tab_ok rfl rfl ?_ | refine Sq.nil ?_ | (refine Sq.guard rfl rfl (fun _ => ?_) (fun _ => ?_) <;> refine Sq.ev tab_ok rfl rfl ?_) | (refine Tr.cond rfl (fun _ => ?_) (fun _ => ?_) <;> try (rename_i h; cases h; done)) | refine Tr.block ?_ | refine Tr.skip ?_ | refine Tr.ret ⟨_, rfl, ?_⟩)
    refine Tr.drawn ( DSq.ev tab_ok rfl rfl <| DSq.ev tab_ok rfl rfl <| DSq.ev tab_ok rfl rfl <| DSq.ev tab_ok rfl rfl <| DSq.one rfl (fun q K hK => Sq.index (x := stpT a) tab_ok rfl (by omega) (hae) rfl (Sq.nil hK)) <| DSq.ev tab_ok rfl rfl <| DSq.eqag rfl (fun _ => rfl) (by kernel_rfl) (fun w => eqA_rstp 9998 w _ _ _ _) <| DSq.nil _) mix_ok rfl ?_
    rw [stp_eq, decide_eq_true rfl]
    repeat' (first | refine Tr.seq ?_ | refine Tr.region ?_ | refine Sq.ev tab_ok rfl rfl ?_ | refine Sq.nil ?_ | (refine Sq.guard rfl rfl (fun _ => ?_) (fun _ => ?_) <;> refine Sq.ev tab_ok rfl rfl ?_) | (refine Tr.cond rfl (fun _ => ?_) (fun _ => ?_) <;> try (rename_i h; cases h; done)) | refine Tr.block ?_ | refine Tr.skip ?_ | refine Tr.ret ⟨_, rfl, ?_⟩)
    exact ⟨i + 1, by omega, by omega, Sub.app (l := [_, _, _, _, _, _, _]) (H := []) ⟨rfl, rfl, rfl, rfl, rfl, rfl, congrArg some (wrapz (by omega) (by omega) (by omega)), trivial⟩ (fun κ v h => nomatch h)⟩
  refine Tr.exit ?_
  repeat' (first | refine Tr.seq ?_ | refine Tr.region ?_ | refine Sq.ev tab_ok rfl rfl ?_ | refine Sq.nil ?_ | (refine Sq.guard rfl rfl (fun _ => ?_) (fun _ => ?_) <;> refine Sq.ev tab_ok rfl rfl ?_) | (refine Tr.cond rfl (fun _ => ?_) (fun _ => ?_) <;> try (rename_i h; cases h; done)) | refine Tr.block ?_ | refine Tr.skip ?_ | refine Tr.ret ⟨_, rfl, ?_⟩)
  refine Tr.loopS (fun i : Nat => [(.s 3, .ptr (.l 3) 0), (.l 3, .blk 41 [.tr (.ls (f.map intT)), .tr (.ls (t.map intT)), .tr (.ls (l.map stpT)), .tr (.ls (e.map edT))]), (.s 69, .tr (.ls (e.map edT))), (.s 70, int (e.map edT).length), (.s 71, int i)]) (fun i => e.length - i) (fun i => i ≤ e.length)
    0 (by omega) (Sub.app (l := [_, _, _, _, _]) (H := []) ⟨rfl, rfl, rfl, rfl, rfl, trivial⟩ (fun κ v h => nomatch h)) ?_
  rintro i hi
  repeat' (first | refine Tr.seq ?_ | refine Tr.region ?_ | refine Sq.ev tab_ok rfl rfl ?_ | refine Sq.nil ?_ | (refine Sq.guard rfl rfl (fun _ => ?_) (fun _ => ?_) <;> refine Sq.ev tab_ok rfl rfl ?_) | (refine Tr.cond rfl (fun _ => ?_) (fun _ => ?_) <;> try (rename_i h; cases h; done)) | refine Tr.block ?_ | refine Tr.skip ?_ | refine Tr.ret ⟨_, rfl, ?_⟩)
  · rename_i h2
    have h2 : decide ((i : Int) < ((e.map edT).length : Int)) = true := h2
    have hlt : i < e.length := by simp only [List.length_map, decide_eq_true_eq] at h2; omega
    obtain ⟨⟨u, v⟩, ha⟩ : ∃ a, e[i]? = some a := ⟨_, List.getElem?_eq_getElem hlt⟩
    have hae : (e.map edT)[((i : Nat) : Int).toNat]? = some (edT (u, v)) := by simp [ha]
    refine Sq.index (x := edT (u, v)) tab_ok rfl (by omega) (hae) rfl ?_
    repeat' (first | refine Tr.seq ?_ | refine Tr.region ?_ | refine Sq.ev tab_ok rfl rfl ?_ | refine Sq.nil ?_ | (refine Sq.guard rfl rfl (fun _ => ?_) (fun _ => ?_) <;> refine Sq.ev tab_ok rfl rfl ?_) | (refine Tr.cond rfl (fun _ => ?_) (fun _ => ?_) <;> try (rename_i h; cases h; done)) | refine Tr.block ?_ | refine Tr.skip ?_ | refine Tr.ret ⟨_, rfl, ?_⟩)
    refine Tr.drawn ( DSq.ev tab_ok rfl rfl <| DSq.ev tab_ok rfl rfl <| DSq.ev tab_ok rfl rfl <| DSq.ev tab_ok rfl rfl <| DSq.one rfl (fun q K hK => Sq.index (x := edT (u, v)) tab_ok rfl (by omega) (hae) rfl (Sq.nil hK)) <| DSq.ev tab_ok rfl rfl <| DSq.eqag rfl (fun _ => rfl) (by kernel_rfl) (fun w => eqA_ed 9998 (u : Int) (v : Int) w) <| DSq.nil _) mix_ok rfl ?_
    repeat' (first | refine Tr.seq ?_ | refine Tr.region ?_ | refine Sq.ev tab_ok rfl rfl ?_ | refine Sq.nil ?_ | (refine Sq.guard rfl rfl (fun _ => ?_) (fun _ => ?_) <;> refine Sq.ev tab_ok rfl rfl ?_) | (refine Tr.cond rfl (fun _ => ?_) (fun _ => ?_) <;> try (rename_i h; cases h; done)) | refine Tr.block ?_ | refine Tr.skip ?_ | refine Tr.ret ⟨_, rfl, ?_⟩)
    exact ⟨i + 1, by omega, by omega, Sub.app (l := [_, _, _, _, _]) (H := []) ⟨rfl, rfl, rfl, rfl, congrArg some (wrapz (by omega) (by omega) (by omega)), trivial⟩ (fun κ v h => nomatch h)⟩
  refine Tr.exit ?_
  repeat' (first | refine Tr.seq ?_ | refine Tr.region ?_ | refine Sq.ev tab_ok rfl rfl ?_ | refine Sq.nil ?_ | (refine Sq.guard rfl rfl (fun _ => ?_) (fun _ => ?_) <;> refine Sq.ev tab_ok rfl rfl ?_) | (refine Tr.cond rfl (fun _ => ?_) (fun _ => ?_) <;> try (rename_i h; cases h; done)) | refine Tr.block ?_ | refine Tr.skip ?_ | refine Tr.ret ⟨_, rfl, ?_⟩)
  rfl
theorem cycP_ex (n : Nat) (es : List (Nat × Nat)) : ∃ cyc : Bool, cyc = true ↔ CycP n es := by
  classical exact ⟨decide (CycP n es), by simp⟩
theorem PlanMakes_ok (c : Ctl) (f t : List Int) : Fn Tryz.prog Gw 3 [.tr (ctlT c), .tr (.ls (f.map intT)), .tr (.ls (t.map intT))] [] (· = bool true) := by
  obtain ⟨cyc, hc⟩ := cyc_ex c
  have hA := planAnchor_ok
  have hM := catRight_ok c hc
  refine Fn.of tab_ok Tryz.func3 rfl (by decide) (by simp [Tryz.f3]) rfl (fun κ v h => by cases h) Gw.below ?_
  repeat' (first | refine Tr.seq ?_ | refine Tr.region ?_ | refine Sq.ev tab_ok rfl rfl ?_ | refine Sq.nil ?_ | (refine Sq.guard rfl rfl (fun _ => ?_) (fun _ => ?_) <;> refine Sq.ev tab_ok rfl rfl ?_) | (refine Tr.cond rfl (fun _ => ?_) (fun _ => ?_) <;> try (rename_i h; cases h; done)) | refine Tr.block ?_ | refine Tr.skip ?_ | refine Tr.ret ⟨_, rfl, ?_⟩)
  refine Sq.callv rfl (hA) ?_
  repeat' (first | refine Tr.seq ?_ | refine Tr.region ?_ | refine Sq.ev tab_ok rfl rfl ?_ | refine Sq.nil ?_ | (refine Sq.guard rfl rfl (fun _ => ?_) (fun _ => ?_) <;> refine Sq.ev tab_ok rfl rfl ?_) | (refine Tr.cond rfl (fun _ => ?_) (fun _ => ?_) <;> try (rename_i h; cases h; done)) | refine Tr.block ?_ | refine Tr.skip ?_ | refine Tr.ret ⟨_, rfl, ?_⟩)
  refine Sq.call rfl hM ?_
  rintro _ ⟨q, rfl, hq⟩
  cases hs : smallC c && ((checkV c cyc).2.2 == 0)
  · repeat' (first | refine Tr.seq ?_ | refine Tr.region ?_ | refine Sq.ev tab_ok rfl rfl ?_ | refine Sq.nil ?_ | (refine Sq.guard rfl rfl (fun _ => ?_) (fun _ => ?_) <;> refine Sq.ev tab_ok rfl rfl ?_) | (refine Tr.cond rfl (fun _ => ?_) (fun _ => ?_) <;> try (rename_i h; cases h; done)) | refine Tr.block ?_ | refine Tr.skip ?_ | refine Tr.ret ⟨_, rfl, ?_⟩)
    rfl
  have e := hq hs
  subst e
  rw [Bool.and_eq_true, beq_iff_eq] at hs
  obtain ⟨hs, hv⟩ := hs
  obtain ⟨hc1, hc2, hcy, _⟩ := right_of hv
  have hlv := levels_of hv
  have hok := ctl_ok hs
  obtain ⟨cy, hcy⟩ := cycP_ex (stepsV q f t).length (befV q f t)
  repeat' (first | refine Tr.seq ?_ | refine Tr.region ?_ | refine Sq.ev tab_ok rfl rfl ?_ | refine Sq.nil ?_ | (refine Sq.guard rfl rfl (fun _ => ?_) (fun _ => ?_) <;> refine Sq.ev tab_ok rfl rfl ?_) | (refine Tr.cond rfl (fun _ => ?_) (fun _ => ?_) <;> try (rename_i h; cases h; done)) | refine Tr.block ?_ | refine Tr.skip ?_ | refine Tr.ret ⟨_, rfl, ?_⟩)
  · rfl
  · rfl
  rename_i g1 g2
  have g1 : decide (((f.map intT).length : Int) > 30) = false := g1
  rw [List.length_map] at g1
  have g1 := of_decide_eq_false g1
  have g2 : decide (((t.map intT).length : Int) > 30) = false := g2
  rw [List.length_map] at g2
  have g2 := of_decide_eq_false g2
  have h1 := Make_ok hok hc2 hlv f t cy hcy (by omega) (by omega)
  have h2 := refMake_ok hok hc2 hlv f t cy hcy (by omega) (by omega)
  have hpl : plainB (makeP q f t cy).f (makeP q f t cy).t (makeP q f t cy).l (makeP q f t cy).b = true := by
    unfold makeP
    by_cases hz : makeZ q f t cy = 0
    · rw [if_pos hz]
      have he : endsV q f t = 0 := by
        unfold makeZ at hz
        split at hz
        · assumption
        · exact hz
      obtain ⟨b1, b2⟩ := bef_bound (c := q) (t := t) (f := f) (by have := (rightV_at (ends0 he).rf).1; omega)
      unfold plainB planV
      simp only [Bool.and_eq_true, decide_eq_true_eq]
      omega
    · rw [if_neg hz]; decide
  have hAl := alike_ok _ _ _ _ hpl
  generalize makeP q f t cy = p at *
  obtain ⟨pf, pt, pl, pb⟩ := p
  generalize makeZ q f t cy = z at *
  refine Sq.callv rfl (h1) ?_
  repeat' (first | refine Tr.seq ?_ | refine Tr.region ?_ | refine Sq.ev tab_ok rfl rfl ?_ | refine Sq.nil ?_ | (refine Sq.guard rfl rfl (fun _ => ?_) (fun _ => ?_) <;> refine Sq.ev tab_ok rfl rfl ?_) | (refine Tr.cond rfl (fun _ => ?_) (fun _ => ?_) <;> try (rename_i h; cases h; done)) | refine Tr.block ?_ | refine Tr.skip ?_ | refine Tr.ret ⟨_, rfl, ?_⟩)
  refine Sq.callv rfl (h2) ?_
  repeat' (first | refine Tr.seq ?_ | refine Tr.region ?_ | refine Sq.ev tab_ok rfl rfl ?_ | refine Sq.nil ?_ | (refine Sq.guard rfl rfl (fun _ => ?_) (fun _ => ?_) <;> refine Sq.ev tab_ok rfl rfl ?_) | (refine Tr.cond rfl (fun _ => ?_) (fun _ => ?_) <;> try (rename_i h; cases h; done)) | refine Tr.block ?_ | refine Tr.skip ?_ | refine Tr.ret ⟨_, rfl, ?_⟩)
  · rename_i h; exfalso
    have h : (z != z) = true := h
    simp at h
  refine Sq.callv rfl (hAl) ?_
  repeat' (first | refine Tr.seq ?_ | refine Tr.region ?_ | refine Sq.ev tab_ok rfl rfl ?_ | refine Sq.nil ?_ | (refine Sq.guard rfl rfl (fun _ => ?_) (fun _ => ?_) <;> refine Sq.ev tab_ok rfl rfl ?_) | (refine Tr.cond rfl (fun _ => ?_) (fun _ => ?_) <;> try (rename_i h; cases h; done)) | refine Tr.block ?_ | refine Tr.skip ?_ | refine Tr.ret ⟨_, rfl, ?_⟩)
  rfl
end Go.Lg.Tryz

set_option linter.unusedSimpArgs false
set_option linter.unusedVariables false
namespace Go.Lg.Tryz
open Go Go.Proofs Go.Proofs.YtikjlooifdgbaaaGreatDoor Go.ChangeShapes Go.WideShapes Go.ChangeAt Go.RowKit Go.Joins Go.Lg.Sem
def theLaid : List (String × DataW Unit) := Rows.planMakesRow.laid
theorem own : ownKnob Tryz.prog.godebug = none := by kernel_rfl
theorem laidOut : laidOutB Tryz.prog = true := by kernel_rfl
def firstCells : Array Value := match Go.Pinned.utf8First with
  | .agg l => (l.map fun | .lit (.int k n) => Value.int k n | _ => undef).toArray
  | _ => #[]
noncomputable def laidWorld (os : Os) : World :=
  let w0 := World.doorLaid Tryz.prog 72 os
  { w0 with heap := w0.heap.modify 2 fun
      | .cells _ t frozen => .cells firstCells t frozen
      | o => o }
set_option maxRecDepth 100000 in
theorem laidWorld_met (os : Os) (args : Array Value) : laidMetH Tryz.prog theLaid ((laidWorld os).forCall (fun _ _ => 0) ⟨#[], args, []⟩).memory :=
  laidMetH_of_parts3 (fuel := 8) (laidMet_of_run' 8 (by kernel_rfl) (by kernel_rfl)) (by kernel_rfl) (by kernel_rfl)
set_option maxRecDepth 100000 in
theorem laidWorld_shaped (os : Os) (args : Array Value) : ((laidWorld os).forCall (fun _ _ => 0) ⟨#[], args, []⟩).Shaped Tryz.prog :=
  World.shaped_of_RefB (by kernel_rfl) (by kernel_rfl)
theorem gw_of {W : World} (hs : W.ShapedOpen Tryz.prog) (h : laidMetH Tryz.prog theLaid W) : Gw W := by
  rw [MakeChecks.laidMetH_plain _ _ _ (by kernel_rfl)] at h
  have h2 : laidMet Tryz.prog (("internal/strconv.uint64pow10", Lib.tabData .u64 Lib.pow10Tab) :: theLaid.drop 3) W := h.tail.tail
  have ht := Lib.tabIs_of_head tab_at (t := 278) (e := 48) (n := 20) (by kernel_rfl) Tryz.underlying278 Tryz.underlying48 (by kernel_rfl) (by kernel_rfl) h2
  obtain ⟨m, hm⟩ := cell_of_shapedOpen_int (g := 4) (zero := #[.int .i64 0]) (t := 3) hs (of_decide_eq_true (by kernel_rfl)) (by kernel_rfl) rfl (by kernel_rfl) (by kernel_rfl) Tryz.underlying3
  have hbig : 8 ≤ W.heap.size := by
    have := ht
    unfold Lib.TabIs World.var? at this
    rw [tab_at, Option.bind_some] at this
    cases hb : W.heap[7]? with
    | none => rw [hb] at this; cases this
    | some o => have := (Array.getElem?_eq_some_iff.1 hb).1; omega
  have h3 : laidMet Tryz.prog (("math/bits.deBruijn64tab", Lib.tabData .u8 (Lib.deBruijn64tab.map Int.ofNat)) :: theLaid.drop 2) W := h.tail
  have hd := Lib.tabIs_of_head (g := 0) (t := 186) (e := 5) (n := 64) (by kernel_rfl) (by kernel_rfl) Tryz.underlying186 Tryz.underlying5 (by kernel_rfl) (by kernel_rfl) h3
  exact ⟨⟨m, hm⟩, ht, hbig, fun j hj => by
    have h4 := hd.cell (g := 0) (by kernel_rfl) j (by rw [List.length_map]; exact hj)
    rw [h4]
    congr 2
    simp only [List.getD_eq_getElem?_getD, List.getElem?_map, List.getElem?_eq_getElem hj, Option.map_some, Option.getD_some]; rfl⟩
theorem returns_both {H : Type} {enc : TypeId × Value → H} {a : Assume} {C : Checked} {os : Os} {f : FuncId} {fn : Func} {s : ChangeSpec} {conds : List PathCond} {apart fresh handsOn again : Bool} {X : World → Array Value → Prop}
    (hX : ∀ (w w' : World) (args : Array Value), w.heap = w'.heap → X w args → X w' args)
    (own : ownKnob C.prog.godebug = none) (started : os.Started) (noInit : C.prog.inits.idxOf? f = none) (hfn : C.prog.funcs[f]? = some fn)
    (witness : ∃ (w : World) (tape : Tape) (i : Input), w.os = os ∧ (w.forCall tape i).Shaped C.prog ∧ i.vars = [] ∧ Input.okWide C.prog (w.forCall tape i) .any w.heap.size f i ∧
      ((s.pre enc C.prog fn conds apart (w.forCall tape i).memory i.args ∧ X (w.forCall tape i).memory i.args) ∧ sizedMet enc C.prog fn (OpenSpec.ofChange s) apart (w.forCall tape i).memory i.args) ∧ a.holds C.prog (lone (Frame.enter C.prog f i.args .normal) [] (w.forCall tape i)))
    (contract : ∀ (W : World) (base : Nat) (args : Array Value) (ds gs : List (DataW H)) (before : List MemPlace),
      (∀ (j : Nat) t v, fn.params[j]? = some t → args[j]? = some v → Value.okWide C.prog W .any base t v) →
      DataW.Whole enc C.prog fn.params.toList s.vars apart W args.toList ds gs before →
      (DataW.weightsEach C.prog (fn.params.toList ++ s.plain.varTypes C.prog) (ds ++ gs)).all (· ≤ reachBytes) = true → X W args → W.ShapedOpen C.prog →
      Calls C.prog f args W fun e W' => ∃ v, e = .returned v ∧ s.post enc C.prog fn apart fresh handsOn again W args v W') :
    ReturnsInHanded a C os f .any (fun w args => (s.pre enc C.prog fn conds apart w args ∧ X w args) ∧ sizedMet enc C.prog fn (OpenSpec.ofChange s) apart w args) (s.post enc C.prog fn apart fresh handsOn again) := by
  refine returnsInHanded_of_calls own started noInit witness ?_
  intro w tape i _ hsh _ hok hpre hholds
  obtain ⟨_, _, _, fn', hfn', _, _, _, _, hval⟩ := hok
  obtain rfl := Option.some.inj (hfn'.symm.trans hfn)
  obtain ⟨⟨⟨ds, gs, before, hw, hc⟩, hx⟩, hz⟩ := hpre
  have hw' := DataW.Whole.of_heap (w' := w.forCall tape i) (by rfl) hw
  refine (contract (w.forCall tape i) w.heap.size i.args ds gs before hval hw' (hz.weights hw) (hX _ _ _ (by rfl) hx) hsh).mono fun e W' ⟨v, he, hp⟩ => ?_
  subst he
  exact ChangeSpec.post_blind hp
section
variable {H : Type} {enc : TypeId × Value → H} {W : World}
theorem stays {t : TypeId} (hr : (Tryz.prog).readableRec t = true) (hrow : t < (Tryz.prog).types.size) {W' : World} {v : Value} {d : DataW H} {p : List MemPlace} (h : DataW.Trod enc Tryz.prog W 0 (fun _ => true) true t v d p) (hb : Below W.heap.size W W') (hlt : ∀ x ∈ p, x.block < W.heap.size) :
    DataW.Trod enc Tryz.prog W' 0 (fun b => decide (b < W.heap.size)) true t v d p := hb.trod laidOut hr hrow h hlt
theorem opens_ver : Opens enc Tryz.prog W 58 (fun v : Ver => [.sc (.int .i64 v.a), .sc (.int .i64 v.b), .sc (.int .i64 v.c), .sc (.string v.p)]) :=
  (opens_struct Tryz.underlying58 (by kernel_rfl) (OpensF.cons rfl (k := 1) (by kernel_rfl) (opens_int Tryz.underlying3) (OpensF.cons rfl (k := 1) (by kernel_rfl) (opens_int Tryz.underlying3) (OpensF.cons rfl (k := 1) (by kernel_rfl) (opens_int Tryz.underlying3)
    (OpensF.cons rfl (k := 1) (by kernel_rfl) (opens_string Tryz.underlying9) OpensF.nil))))).map (fun p : Int × Int × Int × ByteArray × Unit => ⟨p.1, p.2.1, p.2.2.1, p.2.2.2.1⟩) (fun p => rfl)
theorem opens_comp : Opens enc Tryz.prog W 99 (fun c : Cmp => [.sc (.int .i64 c.op), .sc (.int .i64 c.v.a), .sc (.int .i64 c.v.b), .sc (.int .i64 c.v.c), .sc (.string c.v.p)]) :=
  (opens_struct Tryz.underlying99 (by kernel_rfl) (OpensF.cons rfl (k := 1) (by kernel_rfl) (opens_int Tryz.underlying3) (OpensF.cons rfl (k := 4) (by kernel_rfl) opens_ver OpensF.nil))).map (fun p : Int × Ver × Unit => ⟨p.1, p.2.1⟩) (fun p => rfl)
noncomputable instance : Inhabited Cmp := ⟨Cmp.zero⟩
theorem opens_comps : Opens enc Tryz.prog W 100 (fun l : List Cmp => [cmpsT l]) :=
  opens_slice Cmp.t (fun c => rfl) Tryz.underlying100 (fun c => by rw [show (Tryz.prog).cellsOf 99 = 5 by kernel_rfl]; rfl) (by rw [show (Tryz.prog).cellsOf 99 = 5 by kernel_rfl]; omega) opens_comp
theorem opens_rng : Opens enc Tryz.prog W 103 (fun r : Rng => [.ls (r.map cmpsT)]) :=
  (opens_struct Tryz.underlying103 (by kernel_rfl) (OpensF.cons rfl (k := 1) (by kernel_rfl) (opens_slice cmpsT (fun l => rfl) Tryz.underlying101 (fun c => by rw [show (Tryz.prog).cellsOf 100 = 1 by kernel_rfl]; rfl) (by rw [show (Tryz.prog).cellsOf 100 = 1 by kernel_rfl]; omega) opens_comps) OpensF.nil)).map
    (fun p : Rng × Unit => p.1) (fun p => rfl)
end
end Go.Lg.Tryz

set_option linter.unusedSimpArgs false
set_option linter.unusedVariables false
namespace Go.Lg.Tryz
open Go Go.Proofs Go.Proofs.YtikjlooifdgbaaaGreatDoor Go.ChangeShapes Go.WideShapes Go.ChangeAt Go.RowKit Go.Joins Go.Lg.Sem
section
variable {H : Type} {enc : TypeId × Value → H} {W : World}
noncomputable instance : Inhabited Nd := ⟨⟨0, []⟩⟩
noncomputable instance : Inhabited Rls := ⟨⟨Cmp.zero.v, 0, []⟩⟩
noncomputable instance : Inhabited Svc := ⟨⟨ByteArray.empty, []⟩⟩
theorem opens_nd : Opens enc Tryz.prog W 105 (fun n : Nd => [.sc (.int .i64 n.s), .ls (n.r.map cmpsT)]) :=
  (opens_struct Tryz.underlying105 (by kernel_rfl) (OpensF.cons rfl (k := 1) (by kernel_rfl) (opens_int Tryz.underlying3) (OpensF.cons rfl (k := 1) (by kernel_rfl) opens_rng OpensF.nil))).map (fun p : Int × Rng × Unit => ⟨p.1, p.2.1⟩) (fun p => rfl)
theorem opens_nds : Opens enc Tryz.prog W 59 (fun l : List Nd => [.ls (l.map ndT)]) :=
  opens_slice ndT (fun c => rfl) Tryz.underlying59 (fun c => by rw [show (Tryz.prog).cellsOf 105 = 2 by kernel_rfl]; rfl) (by rw [show (Tryz.prog).cellsOf 105 = 2 by kernel_rfl]; omega) opens_nd
theorem opens_rls : Opens enc Tryz.prog W 61 (fun r : Rls => [.sc (.int .i64 r.v.a), .sc (.int .i64 r.v.b), .sc (.int .i64 r.v.c), .sc (.string r.v.p), .sc (.int .i64 r.level), .ls (r.needs.map ndT)]) :=
  (opens_struct Tryz.underlying61 (by kernel_rfl) (OpensF.cons rfl (k := 4) (by kernel_rfl) opens_ver (OpensF.cons rfl (k := 1) (by kernel_rfl) (opens_int Tryz.underlying3) (OpensF.cons rfl (k := 1) (by kernel_rfl) opens_nds OpensF.nil)))).map (fun p : Ver × Int × List Nd × Unit => ⟨p.1, p.2.1, p.2.2.1⟩) (fun p => rfl)
theorem opens_rlss : Opens enc Tryz.prog W 62 (fun l : List Rls => [.ls (l.map rlsT)]) :=
  opens_slice rlsT (fun c => rfl) Tryz.underlying62 (fun c => by rw [show (Tryz.prog).cellsOf 61 = 6 by kernel_rfl]; rfl) (by rw [show (Tryz.prog).cellsOf 61 = 6 by kernel_rfl]; omega) opens_rls
theorem opens_svc : Opens enc Tryz.prog W 64 (fun s : Svc => [.sc (.string s.name), .ls (s.rels.map rlsT)]) :=
  (opens_struct Tryz.underlying64 (by kernel_rfl) (OpensF.cons rfl (k := 1) (by kernel_rfl) (opens_string Tryz.underlying9) (OpensF.cons rfl (k := 1) (by kernel_rfl) opens_rlss OpensF.nil))).map (fun p : ByteArray × List Rls × Unit => ⟨p.1, p.2.1⟩) (fun p => rfl)
theorem opens_cat : Opens enc Tryz.prog W 24 (fun c : Ctl => [.ls (c.map svcT)]) :=
  (opens_struct Tryz.underlying24 (by kernel_rfl) (OpensF.cons rfl (k := 1) (by kernel_rfl) (opens_slice svcT (fun c => rfl) Tryz.underlying22 (fun c => by rw [show (Tryz.prog).cellsOf 64 = 2 by kernel_rfl]; rfl) (by rw [show (Tryz.prog).cellsOf 64 = 2 by kernel_rfl]; omega) opens_svc) OpensF.nil)).map (fun p : Ctl × Unit => p.1) (fun p => rfl)
theorem opens_ints : Opens enc Tryz.prog W 25 (fun l : List Int => [.ls (l.map fun v => .sc (.int .i64 v))]) :=
  opens_slice (fun v : Int => T.sc (.int .i64 v)) (fun c => rfl) Tryz.underlying25 (fun c => by rw [show (Tryz.prog).cellsOf 3 = 1 by kernel_rfl]; rfl) (by rw [show (Tryz.prog).cellsOf 3 = 1 by kernel_rfl]; omega) (opens_int Tryz.underlying3)
end
end Go.Lg.Tryz
