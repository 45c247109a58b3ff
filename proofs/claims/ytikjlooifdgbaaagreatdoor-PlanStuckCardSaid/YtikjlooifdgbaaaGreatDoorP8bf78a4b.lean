/- Words and laws that the theorem leans on (part 6). -/
import Derived.Test.YtikjlooifdgbaaaGreatDoorPf18926ee
import Derived.Test.YtikjlooifdgbaaaGreatDoorP964b764d
import Derived.Test.YtikjlooifdgbaaaGreatDoorP20c1cd42
import Derived.Test.YtikjlooifdgbaaaGreatDoorP403dec3d
import Derived.Test.YtikjlooifdgbaaaGreatDoorP12f953de
import Derived.Test.YtikjlooifdgbaaaGreatDoorRows
import Derived.Carry
import Derived.Lib.SmallJoins
import Derived.LaidMore
import Derived.PinnedBridge
import Derived.HandedShaped
import Derived.ProofKit
import Derived.OpenShut
import Derived.ShutString
import Derived.SizedLaws
import Derived.Stop.LaidErr
import Derived.Stop.Joined
import Derived.Shelf.Vars
import Derived.Lib.LaidTab
import Derived.MakeChecks
set_option linter.unusedVariables false
set_option linter.unusedSimpArgs false

set_option linter.unusedVariables false
set_option linter.unusedSimpArgs false
namespace Go.Lg.Tryz
open Go Go.Proofs Go.RowKit Go.Lib Go.Lg.Sem
def RchP (c : Ctl) (f t : List Int) (l : List Stp) (e : List (Nat × Nat)) : Prop := ∀ i k a b, l[i]? = some a → l[k]? = some b → aheadS c f t a b = true → EdgeWay e i k
def chkZ (c : Ctl) (f t : List Int) (l : List Stp) (cyc rb : Bool) : Int := if endsV c f t = 0 then (if l = stepsV c f t then (if cyc then 45 else if rb then 0 else 45) else 45) else endsV c f t
set_option maxRecDepth 8192 in
theorem planCheck_ok {c : Ctl} (hok : Ctl.ok c) (hc : c.length ≤ 12) (hlv : LvOk c) (f t : List Int) (l : List Stp) (e : List (Nat × Nat)) (hl : l.length ≤ 1000) (he : e.length ≤ 1000) (hp : ∀ p, p ∈ e → p.1 < l.length ∧ p.2 < l.length)
    (cyc : Bool) (hcyc : cyc = true ↔ CycP l.length e) (rb : Bool) (hrb : rb = true ↔ RchP c f t l e) (hfl : f.length ≤ 1000) (htl : t.length ≤ 1000) :
    Fn Tryz.prog Gw 21 [.tr (ctlT c), .tr (plnT ⟨f, t, l, e⟩)] [] (· = int (chkZ c f t l cyc rb)) := by
  have hE := ends_ok hok (by omega) hlv f t
  unfold chkZ
  by_cases hez : endsV c f t ≠ 0
  · generalize endsV c f t = z at *
    rw [if_neg hez]
    refine Fn.of tab_ok Tryz.func21 rfl (by decide) (by simp [Tryz.f21]) rfl (fun κ v h => by cases h) Gw.below ?_
    repeat' (first | refine Tr.seq ?_ | refine Tr.region ?_ | refine Sq.ev tab_ok rfl rfl ?_ | refine Sq.nil ?_ | (refine Sq.guard rfl rfl (fun _ => ?_) (fun _ => ?_) <;> refine Sq.ev tab_ok rfl rfl ?_) | (refine Tr.cond rfl (fun _ => ?_) (fun _ => ?_) <;> try (rename_i h; cases h; done)) | refine Tr.block ?_ | refine Tr.skip ?_ | refine Tr.ret ⟨_, rfl, ?_⟩)
    refine Sq.callv rfl (hE) ?_
    repeat' (first | refine Tr.seq ?_ | refine Tr.region ?_ | refine Sq.ev tab_ok rfl rfl ?_ | refine Sq.nil ?_ | (refine Sq.guard rfl rfl (fun _ => ?_) (fun _ => ?_) <;> refine Sq.ev tab_ok rfl rfl ?_) | (refine Tr.cond rfl (fun _ => ?_) (fun _ => ?_) <;> try (rename_i h; cases h; done)) | refine Tr.block ?_ | refine Tr.skip ?_ | refine Tr.ret ⟨_, rfl, ?_⟩)
    · rfl
    all_goals
      rename_i h
      have h : (z != 0) = false := h
      simp at h; exact absurd h hez
  have hez : endsV c f t = 0 := Classical.not_not.1 hez
  rw [hez] at hE
  rw [if_pos hez]
  have hends := ends0 hez
  have hf12 : f.length ≤ 12 := by have := (rightV_at hends.rf).1; omega
  have htf : t.length = f.length := (rightV_at hends.rt).1.trans (rightV_at hends.rf).1.symm
  have hS := steps_ok hlv hends.rf hends.rt hfl
  obtain ⟨hl36, hin⟩ := steps_facts (c := c) (t := t) hf12
  have hGr := graph_ok f t l e he
  have hEq := eqSteps_ok l (stepsV c f t) (by omega)
  by_cases hls : l ≠ stepsV c f t
  · rw [decide_eq_false hls] at hEq
    rw [if_neg hls]
    generalize stepsV c f t = L at *
    refine Fn.of tab_ok Tryz.func21 rfl (by decide) (by simp [Tryz.f21]) rfl (fun κ v h => by cases h) Gw.below ?_
    repeat' (first | refine Tr.seq ?_ | refine Tr.region ?_ | refine Sq.ev tab_ok rfl rfl ?_ | refine Sq.nil ?_ | (refine Sq.guard rfl rfl (fun _ => ?_) (fun _ => ?_) <;> refine Sq.ev tab_ok rfl rfl ?_) | (refine Tr.cond rfl (fun _ => ?_) (fun _ => ?_) <;> try (rename_i h; cases h; done)) | refine Tr.block ?_ | refine Tr.skip ?_ | refine Tr.ret ⟨_, rfl, ?_⟩)
    refine Sq.callv rfl (hE) ?_
    repeat' (first | refine Tr.seq ?_ | refine Tr.region ?_ | refine Sq.ev tab_ok rfl rfl ?_ | refine Sq.nil ?_ | (refine Sq.guard rfl rfl (fun _ => ?_) (fun _ => ?_) <;> refine Sq.ev tab_ok rfl rfl ?_) | (refine Tr.cond rfl (fun _ => ?_) (fun _ => ?_) <;> try (rename_i h; cases h; done)) | refine Tr.block ?_ | refine Tr.skip ?_ | refine Tr.ret ⟨_, rfl, ?_⟩)
    refine Sq.callv rfl (hGr) ?_
    repeat' (first | refine Tr.seq ?_ | refine Tr.region ?_ | refine Sq.ev tab_ok rfl rfl ?_ | refine Sq.nil ?_ | (refine Sq.guard rfl rfl (fun _ => ?_) (fun _ => ?_) <;> refine Sq.ev tab_ok rfl rfl ?_) | (refine Tr.cond rfl (fun _ => ?_) (fun _ => ?_) <;> try (rename_i h; cases h; done)) | refine Tr.block ?_ | refine Tr.skip ?_ | refine Tr.ret ⟨_, rfl, ?_⟩)
    refine Tr.drawn ( DSq.ev tab_ok rfl rfl <| DSq.ev tab_ok rfl rfl <| DSq.ev tab_ok rfl rfl <| DSq.ev tab_ok rfl rfl <| DSq.ev tab_ok rfl rfl <| DSq.ev tab_ok rfl rfl <| DSq.ev tab_ok rfl rfl <| DSq.call rfl (fun _ => rfl) (hS) <| DSq.call rfl (fun _ => rfl) (hEq) <| DSq.ev tab_ok rfl rfl <| DSq.nil _) mix_ok rfl ?_
    repeat' (first | refine Tr.seq ?_ | refine Tr.region ?_ | refine Sq.ev tab_ok rfl rfl ?_ | refine Sq.nil ?_ | (refine Sq.guard rfl rfl (fun _ => ?_) (fun _ => ?_) <;> refine Sq.ev tab_ok rfl rfl ?_) | (refine Tr.cond rfl (fun _ => ?_) (fun _ => ?_) <;> try (rename_i h; cases h; done)) | refine Tr.block ?_ | refine Tr.skip ?_ | refine Tr.ret ⟨_, rfl, ?_⟩)
    rfl
  have hls : l = stepsV c f t := Classical.not_not.1 hls
  rw [decide_eq_true hls] at hEq
  rw [if_pos hls]
  rw [← hls] at hS hEq hin hl36
  clear hls
  have hO := Order_ok _ _ (by omega) (by omega) hp cyc hcyc
  have hR := Reach_ok _ _ (by omega) (by omega) hp
  refine Fn.of tab_ok Tryz.func21 rfl (by decide) (by simp [Tryz.f21]) rfl (fun κ v h => by cases h) Gw.below ?_
  repeat' (first | refine Tr.seq ?_ | refine Tr.region ?_ | refine Sq.ev tab_ok rfl rfl ?_ | refine Sq.nil ?_ | (refine Sq.guard rfl rfl (fun _ => ?_) (fun _ => ?_) <;> refine Sq.ev tab_ok rfl rfl ?_) | (refine Tr.cond rfl (fun _ => ?_) (fun _ => ?_) <;> try (rename_i h; cases h; done)) | refine Tr.block ?_ | refine Tr.skip ?_ | refine Tr.ret ⟨_, rfl, ?_⟩)
  refine Sq.callv rfl (hE) ?_
  repeat' (first | refine Tr.seq ?_ | refine Tr.region ?_ | refine Sq.ev tab_ok rfl rfl ?_ | refine Sq.nil ?_ | (refine Sq.guard rfl rfl (fun _ => ?_) (fun _ => ?_) <;> refine Sq.ev tab_ok rfl rfl ?_) | (refine Tr.cond rfl (fun _ => ?_) (fun _ => ?_) <;> try (rename_i h; cases h; done)) | refine Tr.block ?_ | refine Tr.skip ?_ | refine Tr.ret ⟨_, rfl, ?_⟩)
  refine Sq.callv rfl (hGr) ?_
  repeat' (first | refine Tr.seq ?_ | refine Tr.region ?_ | refine Sq.ev tab_ok rfl rfl ?_ | refine Sq.nil ?_ | (refine Sq.guard rfl rfl (fun _ => ?_) (fun _ => ?_) <;> refine Sq.ev tab_ok rfl rfl ?_) | (refine Tr.cond rfl (fun _ => ?_) (fun _ => ?_) <;> try (rename_i h; cases h; done)) | refine Tr.block ?_ | refine Tr.skip ?_ | refine Tr.ret ⟨_, rfl, ?_⟩)
  refine Tr.drawn ( DSq.ev tab_ok rfl rfl <| DSq.ev tab_ok rfl rfl <| DSq.ev tab_ok rfl rfl <| DSq.ev tab_ok rfl rfl <| DSq.ev tab_ok rfl rfl <| DSq.ev tab_ok rfl rfl <| DSq.ev tab_ok rfl rfl <| DSq.call rfl (fun _ => rfl) (hS) <| DSq.call rfl (fun _ => rfl) (hEq) <| DSq.ev tab_ok rfl rfl <| DSq.nil _) mix_ok rfl ?_
  repeat' (first | refine Tr.seq ?_ | refine Tr.region ?_ | refine Sq.ev tab_ok rfl rfl ?_ | refine Sq.nil ?_ | (refine Sq.guard rfl rfl (fun _ => ?_) (fun _ => ?_) <;> refine Sq.ev tab_ok rfl rfl ?_) | (refine Tr.cond rfl (fun _ => ?_) (fun _ => ?_) <;> try (rename_i h; cases h; done)) | refine Tr.block ?_ | refine Tr.skip ?_ | refine Tr.ret ⟨_, rfl, ?_⟩)
  refine Sq.call rfl hO ?_
  rintro _ ⟨o, rfl⟩
  cases hcy : cyc
  case true =>
    repeat' (first | refine Tr.seq ?_ | refine Tr.region ?_ | refine Sq.ev tab_ok rfl rfl ?_ | refine Sq.nil ?_ | (refine Sq.guard rfl rfl (fun _ => ?_) (fun _ => ?_) <;> refine Sq.ev tab_ok rfl rfl ?_) | (refine Tr.cond rfl (fun _ => ?_) (fun _ => ?_) <;> try (rename_i h; cases h; done)) | refine Tr.block ?_ | refine Tr.skip ?_ | refine Tr.ret ⟨_, rfl, ?_⟩)
    rfl
  repeat' (first | refine Tr.seq ?_ | refine Tr.region ?_ | refine Sq.ev tab_ok rfl rfl ?_ | refine Sq.nil ?_ | (refine Sq.guard rfl rfl (fun _ => ?_) (fun _ => ?_) <;> refine Sq.ev tab_ok rfl rfl ?_) | (refine Tr.cond rfl (fun _ => ?_) (fun _ => ?_) <;> try (rename_i h; cases h; done)) | refine Tr.block ?_ | refine Tr.skip ?_ | refine Tr.ret ⟨_, rfl, ?_⟩)
  refine Sq.call rfl hR ?_
  rintro _ ⟨R, rfl, hRl, hRb⟩
  repeat' (first | refine Tr.seq ?_ | refine Tr.region ?_ | refine Sq.ev tab_ok rfl rfl ?_ | refine Sq.nil ?_ | (refine Sq.guard rfl rfl (fun _ => ?_) (fun _ => ?_) <;> refine Sq.ev tab_ok rfl rfl ?_) | (refine Tr.cond rfl (fun _ => ?_) (fun _ => ?_) <;> try (rename_i h; cases h; done)) | refine Tr.block ?_ | refine Tr.skip ?_ | refine Tr.ret ⟨_, rfl, ?_⟩)
  refine Tr.loopS (fun i : Nat => [(.s 2, .ptr (.l 2) 0), (.l 2, .blk 24 [.tr (.ls (c.map svcT))]), (.s 3, .ptr (.l 3) 0), (.l 3, .blk 35 [.tr (.ls (f.map intT)), .tr (.ls (t.map intT)), .tr (.ls (l.map stpT)), .tr (.ls (e.map edT))]), (.s 9, .tr (.ls (R.map u64T))), (.s 49, .tr (.ls (l.map stpT))), (.s 50, int (l.map stpT).length), (.s 51, int i)]) (fun i => l.length - i) (fun i => i ≤ l.length ∧ ∀ j, j < i → ∀ k a b, l[j]? = some a → l[k]? = some b → aheadS c f t a b = true → EdgeWay e j k)
    0 ⟨by omega, by intro j hj; omega⟩ (Sub.app (l := [_, _, _, _, _, _, _, _]) (H := []) ⟨rfl, rfl, rfl, rfl, rfl, rfl, rfl, rfl, trivial⟩ (fun κ v h => nomatch h)) ?_
  rintro i ⟨hi, hall⟩
  repeat' (first | refine Tr.seq ?_ | refine Tr.region ?_ | refine Sq.ev tab_ok rfl rfl ?_ | refine Sq.nil ?_ | (refine Sq.guard rfl rfl (fun _ => ?_) (fun _ => ?_) <;> refine Sq.ev tab_ok rfl rfl ?_) | (refine Tr.cond rfl (fun _ => ?_) (fun _ => ?_) <;> try (rename_i h; cases h; done)) | refine Tr.block ?_ | refine Tr.skip ?_ | refine Tr.ret ⟨_, rfl, ?_⟩)
  · rename_i h2
    have h2 : decide ((i : Int) < ((l.map stpT).length : Int)) = true := h2
    have hlt : i < l.length := by simp only [List.length_map, decide_eq_true_eq] at h2; omega
    obtain ⟨a, ha⟩ : ∃ a, l[i]? = some a := ⟨_, List.getElem?_eq_getElem hlt⟩
    have hae : (l.map stpT)[((i : Nat) : Int).toNat]? = some (stpT a) := by simp [ha]
    obtain ⟨a1, a2⟩ := hin a (List.mem_of_getElem? ha)
    obtain ⟨x, hx⟩ : ∃ x, R[i]? = some x := ⟨_, List.getElem?_eq_getElem (by omega)⟩
    have hxe : (R.map u64T)[((i : Nat) : Int).toNat]? = some (u64T x) := by simp [hx]
    have hxb := hRb i x hx
    refine Sq.index (x := stpT a) tab_ok rfl (by omega) (hae) rfl ?_
    repeat' (first | refine Tr.seq ?_ | refine Tr.region ?_ | refine Sq.ev tab_ok rfl rfl ?_ | refine Sq.nil ?_ | (refine Sq.guard rfl rfl (fun _ => ?_) (fun _ => ?_) <;> refine Sq.ev tab_ok rfl rfl ?_) | (refine Tr.cond rfl (fun _ => ?_) (fun _ => ?_) <;> try (rename_i h; cases h; done)) | refine Tr.block ?_ | refine Tr.skip ?_ | refine Tr.ret ⟨_, rfl, ?_⟩)
    refine Tr.loopS (fun k : Nat => [(.s 2, .ptr (.l 2) 0), (.l 2, .blk 24 [.tr (.ls (c.map svcT))]), (.s 3, .ptr (.l 3) 0), (.l 3, .blk 35 [.tr (.ls (f.map intT)), .tr (.ls (t.map intT)), .tr (.ls (l.map stpT)), .tr (.ls (e.map edT))]), (.s 9, .tr (.ls (R.map u64T))), (.s 49, .tr (.ls (l.map stpT))), (.s 50, int (l.map stpT).length), (.s 51, int i),
        (.s 11, int i), (.s 12, .ptr (.l 12) 0), (.l 12, .blk 56 [int a.s, int a.k]), (.s 57, .tr (.ls (l.map stpT))), (.s 58, int (l.map stpT).length), (.s 59, int k)]) (fun k => l.length - k) (fun k => k ≤ l.length ∧ ∀ j, j < k → ∀ b, l[j]? = some b → aheadS c f t a b = true → EdgeWay e i j)
      0 ⟨by omega, by intro j hj; omega⟩ (Sub.app (l := [_, _, _, _, _, _, _, _, _, _, _, _, _, _]) (H := []) ⟨rfl, rfl, rfl, rfl, rfl, rfl, rfl, rfl, rfl, rfl, rfl, rfl, rfl, rfl, trivial⟩ (fun κ v h => nomatch h)) ?_
    rintro k ⟨hk, hrow⟩
    repeat' (first | refine Tr.seq ?_ | refine Tr.region ?_ | refine Sq.ev tab_ok rfl rfl ?_ | refine Sq.nil ?_ | (refine Sq.guard rfl rfl (fun _ => ?_) (fun _ => ?_) <;> refine Sq.ev tab_ok rfl rfl ?_) | (refine Tr.cond rfl (fun _ => ?_) (fun _ => ?_) <;> try (rename_i h; cases h; done)) | refine Tr.block ?_ | refine Tr.skip ?_ | refine Tr.ret ⟨_, rfl, ?_⟩)
    · rename_i h3
      have h3 : decide ((k : Int) < ((l.map stpT).length : Int)) = true := h3
      have hlt2 : k < l.length := by simp only [List.length_map, decide_eq_true_eq] at h3; omega
      obtain ⟨b, hb⟩ : ∃ b, l[k]? = some b := ⟨_, List.getElem?_eq_getElem hlt2⟩
      have hbe : (l.map stpT)[((k : Nat) : Int).toNat]? = some (stpT b) := by simp [hb]
      obtain ⟨b1, b2⟩ := hin b (List.mem_of_getElem? hb)
      have hAh := stepAhead_ok hok f t l e a2 b2 a1 (by omega)
      have hnext : (aheadS c f t a b = true → EdgeWay e i k) → ∀ j, j < k + 1 → ∀ b, l[j]? = some b → aheadS c f t a b = true → EdgeWay e i j := fun h j hj b' hb' h' => by
        rcases Nat.lt_succ_iff_lt_or_eq.1 hj with h4 | rfl
        · exact hrow j h4 b' hb' h'
        · rw [hb] at hb'; obtain rfl := Option.some.inj hb'; exact h h'
      refine Sq.index (x := stpT b) tab_ok rfl (by omega) (hbe) rfl ?_
      repeat' (first | refine Tr.seq ?_ | refine Tr.region ?_ | refine Sq.ev tab_ok rfl rfl ?_ | refine Sq.nil ?_ | (refine Sq.guard rfl rfl (fun _ => ?_) (fun _ => ?_) <;> refine Sq.ev tab_ok rfl rfl ?_) | (refine Tr.cond rfl (fun _ => ?_) (fun _ => ?_) <;> try (rename_i h; cases h; done)) | refine Tr.block ?_ | refine Tr.skip ?_ | refine Tr.ret ⟨_, rfl, ?_⟩)
      cases hab : aheadS c f t a b
      · rw [hab] at hAh
        refine Sq.callv rfl (hAh) ?_
        repeat' (first | refine Tr.seq ?_ | refine Tr.region ?_ | refine Sq.ev tab_ok rfl rfl ?_ | refine Sq.nil ?_ | (refine Sq.guard rfl rfl (fun _ => ?_) (fun _ => ?_) <;> refine Sq.ev tab_ok rfl rfl ?_) | (refine Tr.cond rfl (fun _ => ?_) (fun _ => ?_) <;> try (rename_i h; cases h; done)) | refine Tr.block ?_ | refine Tr.skip ?_ | refine Tr.ret ⟨_, rfl, ?_⟩)
        exact ⟨k + 1, ⟨by omega, hnext (fun h => by rw [hab] at h; cases h)⟩, by omega, Sub.app (l := [_, _, _, _, _, _, _, _, _, _, _, _, _, _]) (H := []) ⟨rfl, rfl, rfl, rfl, rfl, rfl, rfl, rfl, rfl, rfl, rfl, rfl, rfl, congrArg some (wrapz (by omega) (by omega) (by omega)), trivial⟩ (fun κ v h => nomatch h)⟩
      · rw [hab] at hAh
        refine Sq.callv rfl (hAh) ?_
        repeat' (first | refine Tr.seq ?_ | refine Tr.region ?_ | refine Sq.ev tab_ok rfl rfl ?_ | refine Sq.nil ?_ | (refine Sq.guard rfl rfl (fun _ => ?_) (fun _ => ?_) <;> refine Sq.ev tab_ok rfl rfl ?_) | (refine Tr.cond rfl (fun _ => ?_) (fun _ => ?_) <;> try (rename_i h; cases h; done)) | refine Tr.block ?_ | refine Tr.skip ?_ | refine Tr.ret ⟨_, rfl, ?_⟩)
        refine Sq.index (x := u64T x) tab_ok rfl (by omega) (hxe) rfl ?_
        refine Sq.ev tab_ok rfl rfl ?_
        refine Sq.ev tab_ok rfl rfl ?_
        refine Sq.shift rfl x k rfl rfl (by omega) ?_
        refine Sq.bits rfl (x >>> k) 1#64 (r := x >>> k &&& 1#64) rfl rfl rfl ?_
        repeat' (first | refine Tr.seq ?_ | refine Tr.region ?_ | refine Sq.ev tab_ok rfl rfl ?_ | refine Sq.nil ?_ | (refine Sq.guard rfl rfl (fun _ => ?_) (fun _ => ?_) <;> refine Sq.ev tab_ok rfl rfl ?_) | (refine Tr.cond rfl (fun _ => ?_) (fun _ => ?_) <;> try (rename_i h; cases h; done)) | refine Tr.block ?_ | refine Tr.skip ?_ | refine Tr.ret ⟨_, rfl, ?_⟩)
        · rename_i h6
          have h6 : (((x >>> k &&& 1#64).toNat : Int) == 0) = true := h6
          rw [bit1_0] at h6
          show int 45 = int _
          have hnb : rb = false := by
            rw [← Bool.not_eq_true]
            intro h
            have := (hxb k (by omega)).2 (hrb.1 h i k a b ha hb hab)
            rw [this] at h6; cases h6
          rw [hnb]; rfl
        · rename_i h6
          have h6 : (((x >>> k &&& 1#64).toNat : Int) == 0) = false := h6
          rw [bit1_0] at h6
          exact ⟨k + 1, ⟨by omega, hnext (fun _ => (hxb k (by omega)).1 (by simpa using h6))⟩, by omega, Sub.app (l := [_, _, _, _, _, _, _, _, _, _, _, _, _, _]) (H := []) ⟨rfl, rfl, rfl, rfl, rfl, rfl, rfl, rfl, rfl, rfl, rfl, rfl, rfl, congrArg some (wrapz (by omega) (by omega) (by omega)), trivial⟩ (fun κ v h => nomatch h)⟩
    · rename_i h3
      have h3 : decide ((k : Int) < ((l.map stpT).length : Int)) = false := h3
      have hge : l.length ≤ k := by simp only [List.length_map, decide_eq_false_iff_not] at h3; omega
      refine Tr.exit ?_
      repeat' (first | refine Tr.seq ?_ | refine Tr.region ?_ | refine Sq.ev tab_ok rfl rfl ?_ | refine Sq.nil ?_ | (refine Sq.guard rfl rfl (fun _ => ?_) (fun _ => ?_) <;> refine Sq.ev tab_ok rfl rfl ?_) | (refine Tr.cond rfl (fun _ => ?_) (fun _ => ?_) <;> try (rename_i h; cases h; done)) | refine Tr.block ?_ | refine Tr.skip ?_ | refine Tr.ret ⟨_, rfl, ?_⟩)
      refine ⟨i + 1, ⟨by omega, ?_⟩, by omega, Sub.app (l := [_, _, _, _, _, _, _, _]) (H := []) ⟨rfl, rfl, rfl, rfl, rfl, rfl, rfl, congrArg some (wrapz (by omega) (by omega) (by omega)), trivial⟩ (fun κ v h => nomatch h)⟩
      intro j hj k' a' b' ha' hb' h'
      rcases Nat.lt_succ_iff_lt_or_eq.1 hj with h4 | rfl
      · exact hall j h4 k' a' b' ha' hb' h'
      · rw [ha] at ha'; obtain rfl := Option.some.inj ha'
        have := (List.getElem?_eq_some_iff.1 hb').1
        exact hrow k' (by omega) b' hb' h'
  · rename_i h2
    have h2 : decide ((i : Int) < ((l.map stpT).length : Int)) = false := h2
    have hge : l.length ≤ i := by simp only [List.length_map, decide_eq_false_iff_not] at h2; omega
    refine Tr.exit ?_
    repeat' (first | refine Tr.seq ?_ | refine Tr.region ?_ | refine Sq.ev tab_ok rfl rfl ?_ | refine Sq.nil ?_ | (refine Sq.guard rfl rfl (fun _ => ?_) (fun _ => ?_) <;> refine Sq.ev tab_ok rfl rfl ?_) | (refine Tr.cond rfl (fun _ => ?_) (fun _ => ?_) <;> try (rename_i h; cases h; done)) | refine Tr.block ?_ | refine Tr.skip ?_ | refine Tr.ret ⟨_, rfl, ?_⟩)
    have : rb = true := hrb.2 fun j k a b ha hb h => hall j (by have := (List.getElem?_eq_some_iff.1 ha).1; omega) k a b ha hb h
    rw [this]; rfl
end Go.Lg.Tryz

set_option linter.unusedVariables false
set_option linter.unusedSimpArgs false
namespace Go.Lg.Tryz
open Go Go.Proofs Go.RowKit Go.Lib Go.Lg.Sem
theorem rch_self (c : Ctl) (f t : List Int) : RchP c f t (stepsV c f t) (befV c f t) := fun i k a b ha hb h => .one (bef_mem.2 ⟨a, b, ha, hb, h⟩)
abbrev exF : List Int := [0, 0]
abbrev exT : List Int := [1, 1]
abbrev exL : List Stp := [⟨0, 2⟩, ⟨1, 2⟩]
abbrev exB : List (Nat × Nat) := [(1, 0)]
theorem exSteps : stepsV exC exF exT = exL := by decide +kernel
theorem exBef : befV exC exF exT = exB := by decide +kernel
theorem exEnds : endsV exC exF exT = 0 := by decide +kernel
theorem exCyc : false = true ↔ CycP exL.length exB := by
  refine ⟨fun h => (nomatch h), ?_⟩
  rintro ⟨a, _, h⟩
  exfalso
  have key : ∀ a b, EdgeWay exB a b → a = 1 ∧ b = 0 := by
    intro a b h
    induction h with
    | one e => simpa using e
    | snoc _ e ih =>
      obtain ⟨rfl, rfl⟩ := ih
      simp at e
  obtain ⟨rfl, h⟩ := key _ _ h
  omega
theorem anchor1_ok (op : Int) (v : Ver) : Fn Tryz.prog Gw 42 [int op, .tr (Ver.t v)] [] (· = .own 105 (([⟨0, [[⟨op, v⟩]]⟩] : List Nd).map ndT)) := by
  refine Fn.of tab_ok Tryz.func42 rfl (by decide) (by simp [Tryz.f42]) rfl (fun κ v h => by cases h) Gw.below ?_
  repeat' (first | refine Tr.seq ?_ | refine Tr.region ?_ | refine Sq.ev tab_ok rfl rfl ?_ | refine Sq.nil ?_ | (refine Sq.guard rfl rfl (fun _ => ?_) (fun _ => ?_) <;> refine Sq.ev tab_ok rfl rfl ?_) | (refine Tr.cond rfl (fun _ => ?_) (fun _ => ?_) <;> try (rename_i h; cases h; done)) | refine Tr.block ?_ | refine Tr.skip ?_ | refine Tr.ret ⟨_, rfl, ?_⟩)
  rfl
set_option maxRecDepth 8192 in
theorem planAnchor_ok : Fn Tryz.prog Gw 12 [] [] (· = bool true) := by
  have h6 := anchor1_ok 6 (vN 1)
  have h0 := anchor1_ok 0 (vN 0)
  have hM := Make_ok exC_ok (by decide) (fun s hs => exC_lv s hs) exF exT false (by rw [exSteps, exBef]; exact exCyc) (by decide) (by decide)
  have hz : makeZ exC exF exT false = 0 := by unfold makeZ; rw [exEnds]; rfl
  have hP : makeP exC exF exT false = ⟨exF, exT, exL, exB⟩ := by unfold makeP planV; rw [if_pos hz, exSteps, exBef]
  rw [hz, hP] at hM
  have hC := planCheck_ok exC_ok (by decide) (fun s hs => exC_lv s hs) exF exT exL exB (by decide) (by decide) (by decide) false exCyc true (by refine ⟨fun _ => ?_, fun _ => rfl⟩; have := rch_self exC exF exT; rw [exSteps, exBef] at this; exact this) (by decide) (by decide)
  have hcz : chkZ exC exF exT exL false true = 0 := by unfold chkZ; rw [exEnds, exSteps]; rfl
  rw [hcz] at hC
  refine Fn.of tab_ok Tryz.func12 rfl (by decide) (by simp [Tryz.f12]) rfl (fun κ v h => by cases h) Gw.below ?_
  repeat' (first | refine Tr.seq ?_ | refine Tr.region ?_ | refine Sq.ev tab_ok rfl rfl ?_ | refine Sq.nil ?_ | (refine Sq.guard rfl rfl (fun _ => ?_) (fun _ => ?_) <;> refine Sq.ev tab_ok rfl rfl ?_) | (refine Tr.cond rfl (fun _ => ?_) (fun _ => ?_) <;> try (rename_i h; cases h; done)) | refine Tr.block ?_ | refine Tr.skip ?_ | refine Tr.ret ⟨_, rfl, ?_⟩)
  refine Tr.drawn ( DSq.ev tab_ok rfl rfl <| DSq.ev tab_ok rfl rfl <| DSq.ev tab_ok rfl rfl <| DSq.ev tab_ok rfl rfl <| DSq.ev tab_ok rfl rfl <| DSq.ev tab_ok rfl rfl <| DSq.ev tab_ok rfl rfl <| DSq.ev tab_ok rfl rfl <| DSq.ev tab_ok rfl rfl <| DSq.call rfl (fun _ => rfl) (h6) <| DSq.ev tab_ok rfl rfl <| DSq.ev tab_ok rfl rfl <| DSq.ev tab_ok rfl rfl <| DSq.ev tab_ok rfl rfl <| DSq.call rfl (fun _ => rfl) (h0) <| DSq.ev tab_ok rfl rfl <| DSq.ev tab_ok rfl rfl <| DSq.ev tab_ok rfl rfl <| DSq.ev tab_ok rfl rfl <| DSq.ev tab_ok rfl rfl <| DSq.ev tab_ok rfl rfl <| DSq.ev tab_ok rfl rfl <| DSq.nil _) mix_ok rfl ?_
  refine Tr.seq ?_
  refine Tr.sub (m' := [(.s 4, .ptr (.l 4) 0), (.l 4, .blk 24 [.tr (.ls (exC.map svcT))])]) ⟨rfl, rfl, trivial⟩ ?_
  clear hz hP hcz h6 h0
  generalize exC = X at *
  repeat' (first | refine Tr.seq ?_ | refine Tr.region ?_ | refine Sq.ev tab_ok rfl rfl ?_ | refine Sq.nil ?_ | (refine Sq.guard rfl rfl (fun _ => ?_) (fun _ => ?_) <;> refine Sq.ev tab_ok rfl rfl ?_) | (refine Tr.cond rfl (fun _ => ?_) (fun _ => ?_) <;> try (rename_i h; cases h; done)) | refine Tr.block ?_ | refine Tr.skip ?_ | refine Tr.ret ⟨_, rfl, ?_⟩)
  refine Sq.callv rfl (hM) ?_
  repeat' (first | refine Tr.seq ?_ | refine Tr.region ?_ | refine Sq.ev tab_ok rfl rfl ?_ | refine Sq.nil ?_ | (refine Sq.guard rfl rfl (fun _ => ?_) (fun _ => ?_) <;> refine Sq.ev tab_ok rfl rfl ?_) | (refine Tr.cond rfl (fun _ => ?_) (fun _ => ?_) <;> try (rename_i h; cases h; done)) | refine Tr.block ?_ | refine Tr.skip ?_ | refine Tr.ret ⟨_, rfl, ?_⟩)
  refine Sq.index (x := edT (1, 0)) tab_ok rfl (by decide) rfl rfl ?_
  refine Sq.ev tab_ok rfl rfl ?_
  refine Sq.ev tab_ok rfl rfl ?_
  refine Sq.eqag rfl (by kernel_rfl) (fun w => eqA_ed 9998 1 0 w) ?_
  repeat' (first | refine Tr.seq ?_ | refine Tr.region ?_ | refine Sq.ev tab_ok rfl rfl ?_ | refine Sq.nil ?_ | (refine Sq.guard rfl rfl (fun _ => ?_) (fun _ => ?_) <;> refine Sq.ev tab_ok rfl rfl ?_) | (refine Tr.cond rfl (fun _ => ?_) (fun _ => ?_) <;> try (rename_i h; cases h; done)) | refine Tr.block ?_ | refine Tr.skip ?_ | refine Tr.ret ⟨_, rfl, ?_⟩)
  refine Sq.callv rfl (hC) ?_
  repeat' (first | refine Tr.seq ?_ | refine Tr.region ?_ | refine Sq.ev tab_ok rfl rfl ?_ | refine Sq.nil ?_ | (refine Sq.guard rfl rfl (fun _ => ?_) (fun _ => ?_) <;> refine Sq.ev tab_ok rfl rfl ?_) | (refine Tr.cond rfl (fun _ => ?_) (fun _ => ?_) <;> try (rename_i h; cases h; done)) | refine Tr.block ?_ | refine Tr.skip ?_ | refine Tr.ret ⟨_, rfl, ?_⟩)
  rfl
end Go.Lg.Tryz

set_option linter.unusedVariables false
set_option linter.unusedSimpArgs false
namespace Go.Lg.Tryz
open Go Go.Proofs Go.RowKit Go.Lib Go.Lg.Sem
def placeB (v f : Int) : Bool := decide (0 ≤ v) && decide (0 ≤ f) && decide (v ≤ 1048576) && decide (f ≤ 1048576)
theorem Place_ok (v f : Int) : Fn Tryz.prog Gw 36 [.tr (pT v f)] [] (· = bool (placeB v f)) := by
  refine Fn.of tab_ok Tryz.func36 rfl (by decide) (by simp [Tryz.f36]) rfl (fun κ v h => by cases h) Gw.below ?_
  repeat' (first | refine Tr.seq ?_ | refine Tr.region ?_ | refine Sq.ev tab_ok rfl rfl ?_ | refine Sq.nil ?_ | (refine Sq.guard rfl rfl (fun _ => ?_) (fun _ => ?_) <;> refine Sq.ev tab_ok rfl rfl ?_) | (refine Tr.cond rfl (fun _ => ?_) (fun _ => ?_) <;> try (rename_i h; cases h; done)) | refine Tr.block ?_ | refine Tr.skip ?_ | refine Tr.ret ⟨_, rfl, ?_⟩)
  all_goals simp_all [placeB]
  all_goals omega
theorem refStands_ok {c : Ctl} (hlv : LvOk c) (i v f : Int) : Fn Tryz.prog Gw 67 [.tr (ctlT c), int i, .tr (pT v f)] [] (· = bool (standsB c i v f)) := by
  have hP := Place_ok v f
  by_cases h1 : i < 0
  · have d1 : decide (i < 0) = true := decide_eq_true h1
    have : standsB c i v f = false := by unfold standsB; rw [decide_eq_false (by omega)]; rfl
    rw [this]
    refine Fn.of tab_ok Tryz.func67 rfl (by decide) (by simp [Tryz.f67]) rfl (fun κ v h => by cases h) Gw.below ?_
    repeat' (first | refine Tr.seq ?_ | refine Tr.region ?_ | refine Sq.ev tab_ok rfl rfl ?_ | refine Sq.nil ?_ | (refine Sq.guard rfl rfl (fun _ => ?_) (fun _ => ?_) <;> refine Sq.ev tab_ok rfl rfl ?_) | (refine Tr.cond rfl (fun _ => ?_) (fun _ => ?_) <;> try (rename_i h; cases h; done)) | refine Tr.block ?_ | refine Tr.skip ?_ | refine Tr.ret ⟨_, rfl, ?_⟩)
    refine Tr.drawn ( DSq.ev tab_ok rfl rfl <| DSq.evr tab_ok rfl (congrArg bool d1) <| DSq.ev tab_ok rfl rfl <| DSq.ev tab_ok rfl rfl <| DSq.ev tab_ok rfl rfl <| DSq.ev tab_ok rfl rfl <| DSq.ev tab_ok rfl rfl <| DSq.ev tab_ok rfl rfl <| DSq.ev tab_ok rfl rfl <| DSq.ev tab_ok rfl rfl <| DSq.ev tab_ok rfl rfl <| DSq.ev tab_ok rfl rfl <| DSq.ev tab_ok rfl rfl <| DSq.ev tab_ok rfl rfl <| DSq.ev tab_ok rfl rfl <| DSq.ev tab_ok rfl rfl <| DSq.ev tab_ok rfl rfl <| DSq.ev tab_ok rfl rfl <| DSq.ev tab_ok rfl rfl <| DSq.ev tab_ok rfl rfl <| DSq.ev tab_ok rfl rfl <| DSq.ev tab_ok rfl rfl <| DSq.ev tab_ok rfl rfl <| DSq.ev tab_ok rfl rfl <| DSq.ev tab_ok rfl rfl <| DSq.ev tab_ok rfl rfl <| DSq.nil _) mix_ok rfl ?_
    repeat' (first | refine Tr.seq ?_ | refine Tr.region ?_ | refine Sq.ev tab_ok rfl rfl ?_ | refine Sq.nil ?_ | (refine Sq.guard rfl rfl (fun _ => ?_) (fun _ => ?_) <;> refine Sq.ev tab_ok rfl rfl ?_) | (refine Tr.cond rfl (fun _ => ?_) (fun _ => ?_) <;> try (rename_i h; cases h; done)) | refine Tr.block ?_ | refine Tr.skip ?_ | refine Tr.ret ⟨_, rfl, ?_⟩)
    rfl
  have d1 : decide (i < 0) = false := decide_eq_false h1
  by_cases h2 : i ≥ ((c.map svcT).length : Int)
  · have d2 : decide (i ≥ ((c.map svcT).length : Int)) = true := decide_eq_true h2
    have : standsB c i v f = false := by
      apply stands_none
      unfold relAt
      rw [List.getElem?_eq_none (by rw [List.length_map] at h2; omega)]
    rw [this]
    refine Fn.of tab_ok Tryz.func67 rfl (by decide) (by simp [Tryz.f67]) rfl (fun κ v h => by cases h) Gw.below ?_
    repeat' (first | refine Tr.seq ?_ | refine Tr.region ?_ | refine Sq.ev tab_ok rfl rfl ?_ | refine Sq.nil ?_ | (refine Sq.guard rfl rfl (fun _ => ?_) (fun _ => ?_) <;> refine Sq.ev tab_ok rfl rfl ?_) | (refine Tr.cond rfl (fun _ => ?_) (fun _ => ?_) <;> try (rename_i h; cases h; done)) | refine Tr.block ?_ | refine Tr.skip ?_ | refine Tr.ret ⟨_, rfl, ?_⟩)
    refine Tr.drawn ( DSq.ev tab_ok rfl rfl <| DSq.evr tab_ok rfl (congrArg bool d1) <| DSq.ev tab_ok rfl rfl <| DSq.ev tab_ok rfl rfl <| DSq.ev tab_ok rfl rfl <| DSq.ev tab_ok rfl rfl <| DSq.ev tab_ok rfl rfl <| DSq.evr tab_ok rfl (congrArg bool d2) <| DSq.ev tab_ok rfl rfl <| DSq.ev tab_ok rfl rfl <| DSq.ev tab_ok rfl rfl <| DSq.ev tab_ok rfl rfl <| DSq.ev tab_ok rfl rfl <| DSq.ev tab_ok rfl rfl <| DSq.ev tab_ok rfl rfl <| DSq.ev tab_ok rfl rfl <| DSq.ev tab_ok rfl rfl <| DSq.ev tab_ok rfl rfl <| DSq.ev tab_ok rfl rfl <| DSq.ev tab_ok rfl rfl <| DSq.ev tab_ok rfl rfl <| DSq.ev tab_ok rfl rfl <| DSq.ev tab_ok rfl rfl <| DSq.ev tab_ok rfl rfl <| DSq.ev tab_ok rfl rfl <| DSq.ev tab_ok rfl rfl <| DSq.nil _) mix_ok rfl ?_
    repeat' (first | refine Tr.seq ?_ | refine Tr.region ?_ | refine Sq.ev tab_ok rfl rfl ?_ | refine Sq.nil ?_ | (refine Sq.guard rfl rfl (fun _ => ?_) (fun _ => ?_) <;> refine Sq.ev tab_ok rfl rfl ?_) | (refine Tr.cond rfl (fun _ => ?_) (fun _ => ?_) <;> try (rename_i h; cases h; done)) | refine Tr.block ?_ | refine Tr.skip ?_ | refine Tr.ret ⟨_, rfl, ?_⟩)
    rfl
  have d2 : decide (i ≥ ((c.map svcT).length : Int)) = false := decide_eq_false h2
  rw [List.length_map] at h2
  obtain ⟨s, hs⟩ : ∃ s, c[i.toNat]? = some s := ⟨_, List.getElem?_eq_getElem (by omega)⟩
  have hse : (c.map svcT)[i.toNat]? = some (svcT s) := by simp [hs]
  obtain ⟨hs12, hsl⟩ := hlv s (List.mem_of_getElem? hs)
  cases hp : placeB v f
  · rw [hp] at hP
    have : standsB c i v f = false := by
      rw [← Bool.not_eq_true]
      intro h
      unfold standsB at h
      rw [Bool.and_eq_true, Bool.and_eq_true, decide_eq_true_eq, decide_eq_true_eq] at h
      obtain ⟨⟨_, hf0⟩, h⟩ := h
      cases hr : relAt c i v with
      | none => rw [hr] at h; cases h
      | some r =>
        rw [hr] at h
        simp only [Bool.and_eq_true, decide_eq_true_eq] at h
        unfold relAt at hr
        rw [hs] at hr
        simp only at hr
        split at hr
        · have hvl := (List.getElem?_eq_some_iff.1 hr).1
          obtain ⟨l0, l1⟩ := hsl r (List.mem_of_getElem? hr)
          have : placeB v f = true := by unfold placeB; simp only [Bool.and_eq_true, decide_eq_true_eq]; omega
          rw [this] at hp; cases hp
        · cases hr
    rw [this]
    refine Fn.of tab_ok Tryz.func67 rfl (by decide) (by simp [Tryz.f67]) rfl (fun κ v h => by cases h) Gw.below ?_
    repeat' (first | refine Tr.seq ?_ | refine Tr.region ?_ | refine Sq.ev tab_ok rfl rfl ?_ | refine Sq.nil ?_ | (refine Sq.guard rfl rfl (fun _ => ?_) (fun _ => ?_) <;> refine Sq.ev tab_ok rfl rfl ?_) | (refine Tr.cond rfl (fun _ => ?_) (fun _ => ?_) <;> try (rename_i h; cases h; done)) | refine Tr.block ?_ | refine Tr.skip ?_ | refine Tr.ret ⟨_, rfl, ?_⟩)
    refine Tr.drawn ( DSq.ev tab_ok rfl rfl <| DSq.evr tab_ok rfl (congrArg bool d1) <| DSq.ev tab_ok rfl rfl <| DSq.ev tab_ok rfl rfl <| DSq.ev tab_ok rfl rfl <| DSq.ev tab_ok rfl rfl <| DSq.ev tab_ok rfl rfl <| DSq.evr tab_ok rfl (congrArg bool d2) <| DSq.ev tab_ok rfl rfl <| DSq.ev tab_ok rfl rfl <| DSq.ev tab_ok rfl rfl <| DSq.call rfl (fun _ => rfl) (hP) <| DSq.ev tab_ok rfl rfl <| DSq.ev tab_ok rfl rfl <| DSq.ev tab_ok rfl rfl <| DSq.ev tab_ok rfl rfl <| DSq.ev tab_ok rfl rfl <| DSq.ev tab_ok rfl rfl <| DSq.ev tab_ok rfl rfl <| DSq.ev tab_ok rfl rfl <| DSq.ev tab_ok rfl rfl <| DSq.ev tab_ok rfl rfl <| DSq.ev tab_ok rfl rfl <| DSq.ev tab_ok rfl rfl <| DSq.ev tab_ok rfl rfl <| DSq.ev tab_ok rfl rfl <| DSq.nil _) mix_ok rfl ?_
    repeat' (first | refine Tr.seq ?_ | refine Tr.region ?_ | refine Sq.ev tab_ok rfl rfl ?_ | refine Sq.nil ?_ | (refine Sq.guard rfl rfl (fun _ => ?_) (fun _ => ?_) <;> refine Sq.ev tab_ok rfl rfl ?_) | (refine Tr.cond rfl (fun _ => ?_) (fun _ => ?_) <;> try (rename_i h; cases h; done)) | refine Tr.block ?_ | refine Tr.skip ?_ | refine Tr.ret ⟨_, rfl, ?_⟩)
    rfl
  rw [hp] at hP
  unfold placeB at hp
  simp only [Bool.and_eq_true, decide_eq_true_eq] at hp
  by_cases h3 : v ≥ ((s.rels.map rlsT).length : Int)
  · have d3 : decide (v ≥ ((s.rels.map rlsT).length : Int)) = true := decide_eq_true h3
    have : standsB c i v f = false := by
      apply stands_none
      unfold relAt
      rw [hs]
      simp only
      rw [if_pos (by omega), List.getElem?_eq_none (by rw [List.length_map] at h3; omega)]
    rw [this]
    refine Fn.of tab_ok Tryz.func67 rfl (by decide) (by simp [Tryz.f67]) rfl (fun κ v h => by cases h) Gw.below ?_
    repeat' (first | refine Tr.seq ?_ | refine Tr.region ?_ | refine Sq.ev tab_ok rfl rfl ?_ | refine Sq.nil ?_ | (refine Sq.guard rfl rfl (fun _ => ?_) (fun _ => ?_) <;> refine Sq.ev tab_ok rfl rfl ?_) | (refine Tr.cond rfl (fun _ => ?_) (fun _ => ?_) <;> try (rename_i h; cases h; done)) | refine Tr.block ?_ | refine Tr.skip ?_ | refine Tr.ret ⟨_, rfl, ?_⟩)
    refine Tr.drawn ( DSq.ev tab_ok rfl rfl <| DSq.evr tab_ok rfl (congrArg bool d1) <| DSq.ev tab_ok rfl rfl <| DSq.ev tab_ok rfl rfl <| DSq.ev tab_ok rfl rfl <| DSq.ev tab_ok rfl rfl <| DSq.ev tab_ok rfl rfl <| DSq.evr tab_ok rfl (congrArg bool d2) <| DSq.ev tab_ok rfl rfl <| DSq.ev tab_ok rfl rfl <| DSq.ev tab_ok rfl rfl <| DSq.call rfl (fun _ => rfl) (hP) <| DSq.ev tab_ok rfl rfl <| DSq.ev tab_ok rfl rfl <| DSq.ev tab_ok rfl rfl <| DSq.ev tab_ok rfl rfl <| DSq.ev tab_ok rfl rfl <| DSq.ev tab_ok rfl rfl <| DSq.ev tab_ok rfl rfl <| DSq.ev tab_ok rfl rfl <| DSq.one rfl (fun q K hK => Sq.index (x := svcT s) tab_ok rfl (by omega) (hse) rfl (Sq.nil hK)) <| DSq.ev tab_ok rfl rfl <| DSq.ev tab_ok rfl rfl <| DSq.ev tab_ok rfl rfl <| DSq.evr tab_ok rfl (congrArg bool d3) <| DSq.ev tab_ok rfl rfl <| DSq.nil _) mix_ok rfl ?_
    repeat' (first | refine Tr.seq ?_ | refine Tr.region ?_ | refine Sq.ev tab_ok rfl rfl ?_ | refine Sq.nil ?_ | (refine Sq.guard rfl rfl (fun _ => ?_) (fun _ => ?_) <;> refine Sq.ev tab_ok rfl rfl ?_) | (refine Tr.cond rfl (fun _ => ?_) (fun _ => ?_) <;> try (rename_i h; cases h; done)) | refine Tr.block ?_ | refine Tr.skip ?_ | refine Tr.ret ⟨_, rfl, ?_⟩)
    rfl
  have d3 : decide (v ≥ ((s.rels.map rlsT).length : Int)) = false := decide_eq_false h3
  rw [List.length_map] at h3
  obtain ⟨r, hr⟩ : ∃ s', s.rels[v.toNat]? = some s' := ⟨_, List.getElem?_eq_getElem (by omega)⟩
  have hre : (s.rels.map rlsT)[v.toNat]? = some (rlsT r) := by simp [hr]
  obtain ⟨l0, l1⟩ := hsl r (List.mem_of_getElem? hr)
  have hrel : relAt c i v = some r := by unfold relAt; rw [hs]; simp only; rw [if_pos (by omega), hr]
  have hst : standsB c i v f = (decide (-1 ≤ f - 2 * r.level) && decide (f - 2 * r.level ≤ 1)) := by
    unfold standsB; rw [hrel, decide_eq_true (by omega), decide_eq_true (by omega)]; rfl
  rw [hst]
  refine Fn.of tab_ok Tryz.func67 rfl (by decide) (by simp [Tryz.f67]) rfl (fun κ v h => by cases h) Gw.below ?_
  repeat' (first | refine Tr.seq ?_ | refine Tr.region ?_ | refine Sq.ev tab_ok rfl rfl ?_ | refine Sq.nil ?_ | (refine Sq.guard rfl rfl (fun _ => ?_) (fun _ => ?_) <;> refine Sq.ev tab_ok rfl rfl ?_) | (refine Tr.cond rfl (fun _ => ?_) (fun _ => ?_) <;> try (rename_i h; cases h; done)) | refine Tr.block ?_ | refine Tr.skip ?_ | refine Tr.ret ⟨_, rfl, ?_⟩)
  refine Tr.drawn ( DSq.ev tab_ok rfl rfl <| DSq.evr tab_ok rfl (congrArg bool d1) <| DSq.ev tab_ok rfl rfl <| DSq.ev tab_ok rfl rfl <| DSq.ev tab_ok rfl rfl <| DSq.ev tab_ok rfl rfl <| DSq.ev tab_ok rfl rfl <| DSq.evr tab_ok rfl (congrArg bool d2) <| DSq.ev tab_ok rfl rfl <| DSq.ev tab_ok rfl rfl <| DSq.ev tab_ok rfl rfl <| DSq.call rfl (fun _ => rfl) (hP) <| DSq.ev tab_ok rfl rfl <| DSq.ev tab_ok rfl rfl <| DSq.ev tab_ok rfl rfl <| DSq.ev tab_ok rfl rfl <| DSq.ev tab_ok rfl rfl <| DSq.ev tab_ok rfl rfl <| DSq.ev tab_ok rfl rfl <| DSq.ev tab_ok rfl rfl <| DSq.one rfl (fun q K hK => Sq.index (x := svcT s) tab_ok rfl (by omega) (hse) rfl (Sq.nil hK)) <| DSq.ev tab_ok rfl rfl <| DSq.ev tab_ok rfl rfl <| DSq.ev tab_ok rfl rfl <| DSq.evr tab_ok rfl (congrArg bool d3) <| DSq.ev tab_ok rfl rfl <| DSq.nil _) mix_ok rfl ?_
  repeat' (first | refine Tr.seq ?_ | refine Tr.region ?_ | refine Sq.ev tab_ok rfl rfl ?_ | refine Sq.nil ?_ | (refine Sq.guard rfl rfl (fun _ => ?_) (fun _ => ?_) <;> refine Sq.ev tab_ok rfl rfl ?_) | (refine Tr.cond rfl (fun _ => ?_) (fun _ => ?_) <;> try (rename_i h; cases h; done)) | refine Tr.block ?_ | refine Tr.skip ?_ | refine Tr.ret ⟨_, rfl, ?_⟩)
  refine Tr.drawn ( DSq.ev tab_ok rfl rfl <| DSq.ev tab_ok rfl rfl <| DSq.ev tab_ok rfl rfl <| DSq.ev tab_ok rfl rfl <| DSq.ev tab_ok rfl rfl <| DSq.one rfl (fun q K hK => Sq.index (x := svcT s) tab_ok rfl (by omega) (hse) rfl (Sq.nil hK)) <| DSq.ev tab_ok rfl rfl <| DSq.ev tab_ok rfl rfl <| DSq.ev tab_ok rfl rfl <| DSq.ev tab_ok rfl rfl <| DSq.one rfl (fun q K hK => Sq.index (x := rlsT r) tab_ok rfl (by omega) (hre) rfl (Sq.nil hK)) <| DSq.ev tab_ok rfl rfl <| DSq.ev tab_ok rfl rfl <| DSq.evr tab_ok rfl (congrArg int (Go.IntWalk.i64_in (2 * r.level) ⟨by omega, by omega⟩)) <| DSq.evr tab_ok rfl (congrArg int (Go.IntWalk.i64_in (f - 2 * r.level) ⟨by omega, by omega⟩)) <| DSq.ev tab_ok rfl rfl <| DSq.nil _) mix_ok rfl ?_
  generalize f - 2 * r.level = d at *
  repeat' (first | refine Tr.seq ?_ | refine Tr.region ?_ | refine Sq.ev tab_ok rfl rfl ?_ | refine Sq.nil ?_ | (refine Sq.guard rfl rfl (fun _ => ?_) (fun _ => ?_) <;> refine Sq.ev tab_ok rfl rfl ?_) | (refine Tr.cond rfl (fun _ => ?_) (fun _ => ?_) <;> try (rename_i h; cases h; done)) | refine Tr.block ?_ | refine Tr.skip ?_ | refine Tr.ret ⟨_, rfl, ?_⟩)
  all_goals
    show bool _ = bool _
    congr 3
    rw [Bool.eq_iff_iff]
    simp_all
    try omega
abbrev rPl (p : Pl) : T := pT p.v p.f
theorem refGood_ok {c : Ctl} (h : Ctl.ok c) (hlv : LvOk c) (hc : c.length ≤ 1000000) (l : List Pl) :
    Fn Tryz.prog Gw 28 [.tr (ctlT c), .tr (.ls (l.map rPl))] [] (· = bool (goodB c l)) := by
  by_cases hlc : l.length ≠ c.length
  · have : goodB c l = false := by unfold goodB; rw [decide_eq_false hlc]; rfl
    rw [this]
    refine Fn.of tab_ok Tryz.func28 rfl (by decide) (by simp [Tryz.f28]) rfl (fun κ v h => by cases h) Gw.below ?_
    repeat' (first | refine Tr.seq ?_ | refine Tr.region ?_ | refine Sq.ev tab_ok rfl rfl ?_ | refine Sq.nil ?_ | (refine Sq.guard rfl rfl (fun _ => ?_) (fun _ => ?_) <;> refine Sq.ev tab_ok rfl rfl ?_) | (refine Tr.cond rfl (fun _ => ?_) (fun _ => ?_) <;> try (rename_i h; cases h; done)) | refine Tr.block ?_ | refine Tr.skip ?_ | refine Tr.ret ⟨_, rfl, ?_⟩)
    · rfl
    · rename_i h; exfalso
      have h : (((l.map rPl).length : Int) != ((c.map svcT).length : Int)) = false := h
      rw [List.length_map, List.length_map] at h
      simp at h; omega
  have hlc : l.length = c.length := Classical.not_not.1 hlc
  have hG : goodB c l = (List.range l.length).all (goodAt c l) := by unfold goodB; rw [decide_eq_true hlc]; rfl
  refine Fn.of tab_ok Tryz.func28 rfl (by decide) (by simp [Tryz.f28]) rfl (fun κ v h => by cases h) Gw.below ?_
  repeat' (first | refine Tr.seq ?_ | refine Tr.region ?_ | refine Sq.ev tab_ok rfl rfl ?_ | refine Sq.nil ?_ | (refine Sq.guard rfl rfl (fun _ => ?_) (fun _ => ?_) <;> refine Sq.ev tab_ok rfl rfl ?_) | (refine Tr.cond rfl (fun _ => ?_) (fun _ => ?_) <;> try (rename_i h; cases h; done)) | refine Tr.block ?_ | refine Tr.skip ?_ | refine Tr.ret ⟨_, rfl, ?_⟩)
  · rename_i h; exfalso
    have h : (((l.map rPl).length : Int) != ((c.map svcT).length : Int)) = true := h
    rw [List.length_map, List.length_map] at h
    simp at h; omega
  refine Tr.loopS (fun i : Nat => [(.s 1, .tr (.ls (l.map rPl))), (.s 2, .ptr (.l 2) 0), (.l 2, .blk 29 [.tr (.ls (c.map svcT))]), (.s 5, int i)]) (fun i => l.length - i)
    (fun i => i ≤ l.length ∧ ∀ k p, k < i → l[k]? = some p → standsB c k p.v p.f = true) 0 ⟨by omega, by intro k p hk; omega⟩ (Sub.app (l := [_, _, _, _]) (H := []) ⟨rfl, rfl, rfl, rfl, trivial⟩ (fun κ v h => nomatch h)) ?_
  rintro i ⟨hi, hp⟩
  repeat' (first | refine Tr.seq ?_ | refine Tr.region ?_ | refine Sq.ev tab_ok rfl rfl ?_ | refine Sq.nil ?_ | (refine Sq.guard rfl rfl (fun _ => ?_) (fun _ => ?_) <;> refine Sq.ev tab_ok rfl rfl ?_) | (refine Tr.cond rfl (fun _ => ?_) (fun _ => ?_) <;> try (rename_i h; cases h; done)) | refine Tr.block ?_ | refine Tr.skip ?_ | refine Tr.ret ⟨_, rfl, ?_⟩)
  · rename_i h2
    have hlt : i < l.length := by simp only [List.length_map, decide_eq_true_eq] at h2; omega
    obtain ⟨p, hpi⟩ : ∃ p, l[i]? = some p := ⟨_, List.getElem?_eq_getElem hlt⟩
    have hpe : (l.map rPl)[((i : Nat) : Int).toNat]? = some (rPl p) := by simp [hpi]
    have hS := refStands_ok hlv (i : Int) p.v p.f
    cases hst : standsB c i p.v p.f
    · rw [hst] at hS
      refine Tr.drawn ( DSq.ev tab_ok rfl rfl <| DSq.ev tab_ok rfl rfl <| DSq.ev tab_ok rfl rfl <| DSq.ev tab_ok rfl rfl <| DSq.one rfl (fun q K hK => Sq.index (x := rPl p) tab_ok rfl (by omega) (hpe) rfl (Sq.nil hK)) <| DSq.ev tab_ok rfl rfl <| DSq.call rfl (fun _ => rfl) (hS) <| DSq.ev tab_ok rfl rfl <| DSq.nil _) mix_ok rfl ?_
      repeat' (first | refine Tr.seq ?_ | refine Tr.region ?_ | refine Sq.ev tab_ok rfl rfl ?_ | refine Sq.nil ?_ | (refine Sq.guard rfl rfl (fun _ => ?_) (fun _ => ?_) <;> refine Sq.ev tab_ok rfl rfl ?_) | (refine Tr.cond rfl (fun _ => ?_) (fun _ => ?_) <;> try (rename_i h; cases h; done)) | refine Tr.block ?_ | refine Tr.skip ?_ | refine Tr.ret ⟨_, rfl, ?_⟩)
      have : goodB c l = false := by
        rw [hG, ← Bool.not_eq_true, List.all_eq_true]
        intro hh
        have := hh i (List.mem_range.2 hlt)
        unfold goodAt at this
        rw [hpi] at this
        simp only at this
        rw [hst] at this; cases this
      rw [this]
    · rw [hst] at hS
      refine Tr.drawn ( DSq.ev tab_ok rfl rfl <| DSq.ev tab_ok rfl rfl <| DSq.ev tab_ok rfl rfl <| DSq.ev tab_ok rfl rfl <| DSq.one rfl (fun q K hK => Sq.index (x := rPl p) tab_ok rfl (by omega) (hpe) rfl (Sq.nil hK)) <| DSq.ev tab_ok rfl rfl <| DSq.call rfl (fun _ => rfl) (hS) <| DSq.ev tab_ok rfl rfl <| DSq.nil _) mix_ok rfl ?_
      repeat' (first | refine Tr.seq ?_ | refine Tr.region ?_ | refine Sq.ev tab_ok rfl rfl ?_ | refine Sq.nil ?_ | (refine Sq.guard rfl rfl (fun _ => ?_) (fun _ => ?_) <;> refine Sq.ev tab_ok rfl rfl ?_) | (refine Tr.cond rfl (fun _ => ?_) (fun _ => ?_) <;> try (rename_i h; cases h; done)) | refine Tr.block ?_ | refine Tr.skip ?_ | refine Tr.ret ⟨_, rfl, ?_⟩)
      exact ⟨i + 1, ⟨by omega, fun k q hk hq => by
        rcases Nat.lt_succ_iff_lt_or_eq.1 hk with h4 | rfl
        · exact hp k q h4 hq
        · rw [hpi] at hq; obtain rfl := Option.some.inj hq; exact hst⟩, by omega, Sub.app (l := [_, _, _, _]) (H := []) ⟨rfl, rfl, rfl, congrArg some (wrapz (by omega) (by omega) (by omega)), trivial⟩ (fun κ v h => nomatch h)⟩
  rename_i h2
  have : i = l.length := by simp only [List.length_map, decide_eq_false_iff_not] at h2; omega
  subst this
  refine Tr.exit ?_
  repeat' (first | refine Tr.seq ?_ | refine Tr.region ?_ | refine Sq.ev tab_ok rfl rfl ?_ | refine Sq.nil ?_ | (refine Sq.guard rfl rfl (fun _ => ?_) (fun _ => ?_) <;> refine Sq.ev tab_ok rfl rfl ?_) | (refine Tr.cond rfl (fun _ => ?_) (fun _ => ?_) <;> try (rename_i h; cases h; done)) | refine Tr.block ?_ | refine Tr.skip ?_ | refine Tr.ret ⟨_, rfl, ?_⟩)
  refine Tr.loopS (fun i : Nat => [(.s 1, .tr (.ls (l.map rPl))), (.s 2, .ptr (.l 2) 0), (.l 2, .blk 29 [.tr (.ls (c.map svcT))]), (.s 6, int i)]) (fun i => l.length - i)
    (fun i => i ≤ l.length ∧ ∀ k p j q, k < i → l[k]? = some p → j < k → l[j]? = some q → fitsB c k p.v j q.v = true) 0 ⟨by omega, by intro k p j q hk; omega⟩ (Sub.app (l := [_, _, _, _]) (H := []) ⟨rfl, rfl, rfl, rfl, trivial⟩ (fun κ v h => nomatch h)) ?_
  rintro i ⟨hi, hq⟩
  repeat' (first | refine Tr.seq ?_ | refine Tr.region ?_ | refine Sq.ev tab_ok rfl rfl ?_ | refine Sq.nil ?_ | (refine Sq.guard rfl rfl (fun _ => ?_) (fun _ => ?_) <;> refine Sq.ev tab_ok rfl rfl ?_) | (refine Tr.cond rfl (fun _ => ?_) (fun _ => ?_) <;> try (rename_i h; cases h; done)) | refine Tr.block ?_ | refine Tr.skip ?_ | refine Tr.ret ⟨_, rfl, ?_⟩)
  · rename_i h3
    have hlt : i < l.length := by simp only [List.length_map, decide_eq_true_eq] at h3; omega
    obtain ⟨p, hpi⟩ : ∃ p, l[i]? = some p := ⟨_, List.getElem?_eq_getElem hlt⟩
    have hpe : (l.map rPl)[((i : Nat) : Int).toNat]? = some (rPl p) := by simp [hpi]
    refine Tr.loopS (fun j : Nat => [(.s 1, .tr (.ls (l.map rPl))), (.s 2, .ptr (.l 2) 0), (.l 2, .blk 29 [.tr (.ls (c.map svcT))]), (.s 6, int i), (.s 7, int j)]) (fun j => i - j)
      (fun j => j ≤ i ∧ ∀ k q, k < j → l[k]? = some q → fitsB c i p.v k q.v = true) 0 ⟨by omega, by intro k q hk; omega⟩ (Sub.app (l := [_, _, _, _, _]) (H := []) ⟨rfl, rfl, rfl, rfl, rfl, trivial⟩ (fun κ v h => nomatch h)) ?_
    rintro j ⟨hj, hr⟩
    repeat' (first | refine Tr.seq ?_ | refine Tr.region ?_ | refine Sq.ev tab_ok rfl rfl ?_ | refine Sq.nil ?_ | (refine Sq.guard rfl rfl (fun _ => ?_) (fun _ => ?_) <;> refine Sq.ev tab_ok rfl rfl ?_) | (refine Tr.cond rfl (fun _ => ?_) (fun _ => ?_) <;> try (rename_i h; cases h; done)) | refine Tr.block ?_ | refine Tr.skip ?_ | refine Tr.ret ⟨_, rfl, ?_⟩)
    · rename_i h4
      have hj2 : j < i := by have := of_decide_eq_true h4; omega
      obtain ⟨u, hqj⟩ : ∃ u, l[j]? = some u := ⟨_, List.getElem?_eq_getElem (by omega)⟩
      have hqe : (l.map rPl)[((j : Nat) : Int).toNat]? = some (rPl u) := by simp [hqj]
      have hF := refFits_ok h (i : Int) p.v (j : Int) u.v
      cases hb : fitsB c i p.v j u.v
      · rw [hb] at hF
        refine Tr.drawn ( DSq.ev tab_ok rfl rfl <| DSq.ev tab_ok rfl rfl <| DSq.ev tab_ok rfl rfl <| DSq.ev tab_ok rfl rfl <| DSq.one rfl (fun q K hK => Sq.index (x := rPl p) tab_ok rfl (by omega) (hpe) rfl (Sq.nil hK)) <| DSq.ev tab_ok rfl rfl <| DSq.ev tab_ok rfl rfl <| DSq.ev tab_ok rfl rfl <| DSq.ev tab_ok rfl rfl <| DSq.ev tab_ok rfl rfl <| DSq.one rfl (fun q K hK => Sq.index (x := rPl u) tab_ok rfl (by omega) (hqe) rfl (Sq.nil hK)) <| DSq.ev tab_ok rfl rfl <| DSq.ev tab_ok rfl rfl <| DSq.call rfl (fun _ => rfl) (hF) <| DSq.ev tab_ok rfl rfl <| DSq.nil _) mix_ok rfl ?_
        repeat' (first | refine Tr.seq ?_ | refine Tr.region ?_ | refine Sq.ev tab_ok rfl rfl ?_ | refine Sq.nil ?_ | (refine Sq.guard rfl rfl (fun _ => ?_) (fun _ => ?_) <;> refine Sq.ev tab_ok rfl rfl ?_) | (refine Tr.cond rfl (fun _ => ?_) (fun _ => ?_) <;> try (rename_i h; cases h; done)) | refine Tr.block ?_ | refine Tr.skip ?_ | refine Tr.ret ⟨_, rfl, ?_⟩)
        have : goodB c l = false := by
          rw [hG, ← Bool.not_eq_true, List.all_eq_true]
          intro hh
          have := hh i (List.mem_range.2 hlt)
          unfold goodAt at this
          rw [hpi] at this
          simp only [Bool.and_eq_true, List.all_eq_true] at this
          have := this.2 j (List.mem_range.2 hj2)
          rw [hqj] at this
          simp only at this
          rw [hb] at this; cases this
        rw [this]
      · rw [hb] at hF
        refine Tr.drawn ( DSq.ev tab_ok rfl rfl <| DSq.ev tab_ok rfl rfl <| DSq.ev tab_ok rfl rfl <| DSq.ev tab_ok rfl rfl <| DSq.one rfl (fun q K hK => Sq.index (x := rPl p) tab_ok rfl (by omega) (hpe) rfl (Sq.nil hK)) <| DSq.ev tab_ok rfl rfl <| DSq.ev tab_ok rfl rfl <| DSq.ev tab_ok rfl rfl <| DSq.ev tab_ok rfl rfl <| DSq.ev tab_ok rfl rfl <| DSq.one rfl (fun q K hK => Sq.index (x := rPl u) tab_ok rfl (by omega) (hqe) rfl (Sq.nil hK)) <| DSq.ev tab_ok rfl rfl <| DSq.ev tab_ok rfl rfl <| DSq.call rfl (fun _ => rfl) (hF) <| DSq.ev tab_ok rfl rfl <| DSq.nil _) mix_ok rfl ?_
        repeat' (first | refine Tr.seq ?_ | refine Tr.region ?_ | refine Sq.ev tab_ok rfl rfl ?_ | refine Sq.nil ?_ | (refine Sq.guard rfl rfl (fun _ => ?_) (fun _ => ?_) <;> refine Sq.ev tab_ok rfl rfl ?_) | (refine Tr.cond rfl (fun _ => ?_) (fun _ => ?_) <;> try (rename_i h; cases h; done)) | refine Tr.block ?_ | refine Tr.skip ?_ | refine Tr.ret ⟨_, rfl, ?_⟩)
        exact ⟨j + 1, ⟨by omega, fun k q' hk hq' => by
          rcases Nat.lt_succ_iff_lt_or_eq.1 hk with h4 | rfl
          · exact hr k q' h4 hq'
          · rw [hqj] at hq'; obtain rfl := Option.some.inj hq'; exact hb⟩, by omega, Sub.app (l := [_, _, _, _, _]) (H := []) ⟨rfl, rfl, rfl, rfl, congrArg some (wrapz (by omega) (by omega) (by omega)), trivial⟩ (fun κ v h => nomatch h)⟩
    · rename_i h4
      have : j = i := by have := of_decide_eq_false h4; omega
      subst this
      refine Tr.exit ?_
      repeat' (first | refine Tr.seq ?_ | refine Tr.region ?_ | refine Sq.ev tab_ok rfl rfl ?_ | refine Sq.nil ?_ | (refine Sq.guard rfl rfl (fun _ => ?_) (fun _ => ?_) <;> refine Sq.ev tab_ok rfl rfl ?_) | (refine Tr.cond rfl (fun _ => ?_) (fun _ => ?_) <;> try (rename_i h; cases h; done)) | refine Tr.block ?_ | refine Tr.skip ?_ | refine Tr.ret ⟨_, rfl, ?_⟩)
      exact ⟨j + 1, ⟨by omega, fun k p' j' q' hk hp' hj' hq' => by
        rcases Nat.lt_succ_iff_lt_or_eq.1 hk with h4 | rfl
        · exact hq k p' j' q' h4 hp' hj' hq'
        · rw [hpi] at hp'; obtain rfl := Option.some.inj hp'; exact hr j' q' hj' hq'⟩, by omega, Sub.app (l := [_, _, _, _]) (H := []) ⟨rfl, rfl, rfl, congrArg some (wrapz (by omega) (by omega) (by omega)), trivial⟩ (fun κ v h => nomatch h)⟩
  · rename_i h3
    have : i = l.length := by simp only [List.length_map, decide_eq_false_iff_not] at h3; omega
    subst this
    refine Tr.exit ?_
    repeat' (first | refine Tr.seq ?_ | refine Tr.region ?_ | refine Sq.ev tab_ok rfl rfl ?_ | refine Sq.nil ?_ | (refine Sq.guard rfl rfl (fun _ => ?_) (fun _ => ?_) <;> refine Sq.ev tab_ok rfl rfl ?_) | (refine Tr.cond rfl (fun _ => ?_) (fun _ => ?_) <;> try (rename_i h; cases h; done)) | refine Tr.block ?_ | refine Tr.skip ?_ | refine Tr.ret ⟨_, rfl, ?_⟩)
    have : goodB c l = true := by
      rw [hG, List.all_eq_true]
      intro k hk
      have hk := List.mem_range.1 hk
      obtain ⟨p, hpk⟩ : ∃ p, l[k]? = some p := ⟨_, List.getElem?_eq_getElem hk⟩
      unfold goodAt
      rw [hpk]
      simp only [Bool.and_eq_true, List.all_eq_true]
      refine ⟨hp k p hk hpk, fun j hj => ?_⟩
      have hj := List.mem_range.1 hj
      obtain ⟨q, hqj⟩ : ∃ p, l[j]? = some p := ⟨_, List.getElem?_eq_getElem (by omega)⟩
      rw [hqj]
      exact hq k p j q hk hpk hj hqj
    rw [this]
end Go.Lg.Tryz

set_option linter.unusedVariables false
set_option linter.unusedSimpArgs false
namespace Go.Lg.Tryz
open Go Go.Proofs Go.RowKit Go.Lib Go.Lg.Sem
theorem Released_ok {c : Ctl} (hc : c.length ≤ 1000000) (vs : List Int) : Fn Tryz.prog Gw 30 [.tr (ctlT c), .tr (.ls (vs.map intT))] [] (· = bool (rightV c vs)) := by
  by_cases hlc : vs.length ≠ c.length
  · have : rightV c vs = false := by unfold rightV; rw [decide_eq_false hlc]; rfl
    rw [this]
    refine Fn.of tab_ok Tryz.func30 rfl (by decide) (by simp [Tryz.f30]) rfl (fun κ v h => by cases h) Gw.below ?_
    repeat' (first | refine Tr.seq ?_ | refine Tr.region ?_ | refine Sq.ev tab_ok rfl rfl ?_ | refine Sq.nil ?_ | (refine Sq.guard rfl rfl (fun _ => ?_) (fun _ => ?_) <;> refine Sq.ev tab_ok rfl rfl ?_) | (refine Tr.cond rfl (fun _ => ?_) (fun _ => ?_) <;> try (rename_i h; cases h; done)) | refine Tr.block ?_ | refine Tr.skip ?_ | refine Tr.ret ⟨_, rfl, ?_⟩)
    · rfl
    · rename_i h; exfalso
      have h : (((vs.map intT).length : Int) != ((c.map svcT).length : Int)) = false := h
      rw [List.length_map, List.length_map] at h
      simp at h; omega
  have hlc : vs.length = c.length := Classical.not_not.1 hlc
  have hR : rightV c vs = (List.range vs.length).all (okAt c vs) := by unfold rightV; rw [decide_eq_true hlc]; rfl
  refine Fn.of tab_ok Tryz.func30 rfl (by decide) (by simp [Tryz.f30]) rfl (fun κ v h => by cases h) Gw.below ?_
  repeat' (first | refine Tr.seq ?_ | refine Tr.region ?_ | refine Sq.ev tab_ok rfl rfl ?_ | refine Sq.nil ?_ | (refine Sq.guard rfl rfl (fun _ => ?_) (fun _ => ?_) <;> refine Sq.ev tab_ok rfl rfl ?_) | (refine Tr.cond rfl (fun _ => ?_) (fun _ => ?_) <;> try (rename_i h; cases h; done)) | refine Tr.block ?_ | refine Tr.skip ?_ | refine Tr.ret ⟨_, rfl, ?_⟩)
  · rename_i h; exfalso
    have h : (((vs.map intT).length : Int) != ((c.map svcT).length : Int)) = true := h
    rw [List.length_map, List.length_map] at h
    simp at h; omega
  refine Tr.loopS (fun i : Nat => [(.s 1, .tr (.ls (vs.map intT))), (.s 2, .ptr (.l 2) 0), (.l 2, .blk 29 [.tr (.ls (c.map svcT))]), (.s 5, int i)]) (fun i => vs.length - i)
    (fun i => i ≤ vs.length ∧ (List.range i).all (okAt c vs) = true) 0 ⟨by omega, rfl⟩ (Sub.app (l := [_, _, _, _]) (H := []) ⟨rfl, rfl, rfl, rfl, trivial⟩ (fun κ v h => nomatch h)) ?_
  rintro i ⟨hi, hp⟩
  repeat' (first | refine Tr.seq ?_ | refine Tr.region ?_ | refine Sq.ev tab_ok rfl rfl ?_ | refine Sq.nil ?_ | (refine Sq.guard rfl rfl (fun _ => ?_) (fun _ => ?_) <;> refine Sq.ev tab_ok rfl rfl ?_) | (refine Tr.cond rfl (fun _ => ?_) (fun _ => ?_) <;> try (rename_i h; cases h; done)) | refine Tr.block ?_ | refine Tr.skip ?_ | refine Tr.ret ⟨_, rfl, ?_⟩)
  · rename_i h2
    have hlt : i < vs.length := by simp only [List.length_map, decide_eq_true_eq] at h2; omega
    obtain ⟨v, hv⟩ : ∃ p, vs[i]? = some p := ⟨_, List.getElem?_eq_getElem hlt⟩
    obtain ⟨s, hs⟩ : ∃ p, c[i]? = some p := ⟨_, List.getElem?_eq_getElem (by omega)⟩
    have hve : (vs.map intT)[((i : Nat) : Int).toNat]? = some (intT v) := by simp [hv]
    have hse : (c.map svcT)[((i : Nat) : Int).toNat]? = some (svcT s) := by simp [hs]
    have hsi : c[((i : Nat) : Int).toNat]? = some s := by simpa using hs
    have hok : okAt c vs i = (relAt c i v).isSome := by unfold okAt; rw [hv]
    have bad : okAt c vs i = false → rightV c vs = false := fun hb => by
      rw [hR, ← Bool.not_eq_true, List.all_eq_true]
      intro hh
      rw [hh i (List.mem_range.2 hlt)] at hb; cases hb
    by_cases h3 : v < 0
    · have d3 : decide (v < 0) = true := decide_eq_true h3
      rw [bad (by rw [hok, relAt_neg h3]; rfl)]
      refine Tr.drawn ( DSq.ev tab_ok rfl rfl <| DSq.ev tab_ok rfl rfl <| DSq.one rfl (fun q K hK => Sq.index (x := intT v) tab_ok rfl (by omega) (hve) rfl (Sq.nil hK)) <| DSq.ev tab_ok rfl rfl <| DSq.evr tab_ok rfl (congrArg bool d3) <| DSq.ev tab_ok rfl rfl <| DSq.ev tab_ok rfl rfl <| DSq.ev tab_ok rfl rfl <| DSq.ev tab_ok rfl rfl <| DSq.ev tab_ok rfl rfl <| DSq.ev tab_ok rfl rfl <| DSq.ev tab_ok rfl rfl <| DSq.ev tab_ok rfl rfl <| DSq.ev tab_ok rfl rfl <| DSq.ev tab_ok rfl rfl <| DSq.ev tab_ok rfl rfl <| DSq.ev tab_ok rfl rfl <| DSq.ev tab_ok rfl rfl <| DSq.ev tab_ok rfl rfl <| DSq.nil _) mix_ok rfl ?_
      repeat' (first | refine Tr.seq ?_ | refine Tr.region ?_ | refine Sq.ev tab_ok rfl rfl ?_ | refine Sq.nil ?_ | (refine Sq.guard rfl rfl (fun _ => ?_) (fun _ => ?_) <;> refine Sq.ev tab_ok rfl rfl ?_) | (refine Tr.cond rfl (fun _ => ?_) (fun _ => ?_) <;> try (rename_i h; cases h; done)) | refine Tr.block ?_ | refine Tr.skip ?_ | refine Tr.ret ⟨_, rfl, ?_⟩)
      rfl
    have d3 : decide (v < 0) = false := decide_eq_false h3
    by_cases h4 : v ≥ ((s.rels.map rlsT).length : Int)
    · have d4 : decide (v ≥ ((s.rels.map rlsT).length : Int)) = true := decide_eq_true h4
      rw [bad (by rw [hok, relAt_pos hsi (by omega), List.getElem?_eq_none (by rw [List.length_map] at h4; omega)]; rfl)]
      refine Tr.drawn ( DSq.ev tab_ok rfl rfl <| DSq.ev tab_ok rfl rfl <| DSq.one rfl (fun q K hK => Sq.index (x := intT v) tab_ok rfl (by omega) (hve) rfl (Sq.nil hK)) <| DSq.ev tab_ok rfl rfl <| DSq.evr tab_ok rfl (congrArg bool d3) <| DSq.ev tab_ok rfl rfl <| DSq.ev tab_ok rfl rfl <| DSq.ev tab_ok rfl rfl <| DSq.one rfl (fun q K hK => Sq.index (x := intT v) tab_ok rfl (by omega) (hve) rfl (Sq.nil hK)) <| DSq.ev tab_ok rfl rfl <| DSq.ev tab_ok rfl rfl <| DSq.ev tab_ok rfl rfl <| DSq.ev tab_ok rfl rfl <| DSq.one rfl (fun q K hK => Sq.index (x := svcT s) tab_ok rfl (by omega) (hse) rfl (Sq.nil hK)) <| DSq.ev tab_ok rfl rfl <| DSq.ev tab_ok rfl rfl <| DSq.ev tab_ok rfl rfl <| DSq.evr tab_ok rfl (congrArg bool d4) <| DSq.ev tab_ok rfl rfl <| DSq.nil _) mix_ok rfl ?_
      repeat' (first | refine Tr.seq ?_ | refine Tr.region ?_ | refine Sq.ev tab_ok rfl rfl ?_ | refine Sq.nil ?_ | (refine Sq.guard rfl rfl (fun _ => ?_) (fun _ => ?_) <;> refine Sq.ev tab_ok rfl rfl ?_) | (refine Tr.cond rfl (fun _ => ?_) (fun _ => ?_) <;> try (rename_i h; cases h; done)) | refine Tr.block ?_ | refine Tr.skip ?_ | refine Tr.ret ⟨_, rfl, ?_⟩)
      rfl
    · have d4 : decide (v ≥ ((s.rels.map rlsT).length : Int)) = false := decide_eq_false h4
      rw [List.length_map] at h4
      refine Tr.drawn ( DSq.ev tab_ok rfl rfl <| DSq.ev tab_ok rfl rfl <| DSq.one rfl (fun q K hK => Sq.index (x := intT v) tab_ok rfl (by omega) (hve) rfl (Sq.nil hK)) <| DSq.ev tab_ok rfl rfl <| DSq.evr tab_ok rfl (congrArg bool d3) <| DSq.ev tab_ok rfl rfl <| DSq.ev tab_ok rfl rfl <| DSq.ev tab_ok rfl rfl <| DSq.one rfl (fun q K hK => Sq.index (x := intT v) tab_ok rfl (by omega) (hve) rfl (Sq.nil hK)) <| DSq.ev tab_ok rfl rfl <| DSq.ev tab_ok rfl rfl <| DSq.ev tab_ok rfl rfl <| DSq.ev tab_ok rfl rfl <| DSq.one rfl (fun q K hK => Sq.index (x := svcT s) tab_ok rfl (by omega) (hse) rfl (Sq.nil hK)) <| DSq.ev tab_ok rfl rfl <| DSq.ev tab_ok rfl rfl <| DSq.ev tab_ok rfl rfl <| DSq.evr tab_ok rfl (congrArg bool d4) <| DSq.ev tab_ok rfl rfl <| DSq.nil _) mix_ok rfl ?_
      repeat' (first | refine Tr.seq ?_ | refine Tr.region ?_ | refine Sq.ev tab_ok rfl rfl ?_ | refine Sq.nil ?_ | (refine Sq.guard rfl rfl (fun _ => ?_) (fun _ => ?_) <;> refine Sq.ev tab_ok rfl rfl ?_) | (refine Tr.cond rfl (fun _ => ?_) (fun _ => ?_) <;> try (rename_i h; cases h; done)) | refine Tr.block ?_ | refine Tr.skip ?_ | refine Tr.ret ⟨_, rfl, ?_⟩)
      exact ⟨i + 1, ⟨by omega, by
        rw [List.range_succ, List.all_append, hp]
        simp only [List.all_cons, List.all_nil, Bool.and_true, Bool.true_and]
        rw [hok, relAt_pos hsi (by omega), List.getElem?_eq_getElem (by omega)]; rfl⟩, by omega, Sub.app (l := [_, _, _, _]) (H := []) ⟨rfl, rfl, rfl, congrArg some (wrapz (by omega) (by omega) (by omega)), trivial⟩ (fun κ v h => nomatch h)⟩
  · rename_i h2
    have : i = vs.length := by simp only [List.length_map, decide_eq_false_iff_not] at h2; omega
    subst this
    refine Tr.exit ?_
    repeat' (first | refine Tr.seq ?_ | refine Tr.region ?_ | refine Sq.ev tab_ok rfl rfl ?_ | refine Sq.nil ?_ | (refine Sq.guard rfl rfl (fun _ => ?_) (fun _ => ?_) <;> refine Sq.ev tab_ok rfl rfl ?_) | (refine Tr.cond rfl (fun _ => ?_) (fun _ => ?_) <;> try (rename_i h; cases h; done)) | refine Tr.block ?_ | refine Tr.skip ?_ | refine Tr.ret ⟨_, rfl, ?_⟩)
    rw [hR, hp]
theorem pls_r (c : Ctl) (vs : List Int) : (pls c vs).map rPl = (List.range vs.length).map (pAt c vs) := by
  unfold pls
  rw [List.map_map]
  apply List.map_congr_left
  intro i _
  show rPl (plAt c vs i) = pAt c vs i
  unfold plAt pAt
  cases vs[i]? with
  | none => rfl
  | some v =>
    simp only
    cases relAt c i v <;> rfl
set_option maxRecDepth 8192 in
theorem refEnds_ok {c : Ctl} (hok : Ctl.ok c) (hc : c.length ≤ 1000000) (hlv : LvOk c) (f t : List Int) :
    Fn Tryz.prog Gw 17 [.tr (ctlT c), .tr (.ls (f.map intT)), .tr (.ls (t.map intT))] [] (· = int (endsV c f t)) := by
  have hA := Released_ok hc f
  have hB := Released_ok hc t
  unfold endsV
  cases hf : rightV c f
  · rw [hf] at hA
    rw [if_pos (.inl rfl)]
    refine Fn.of tab_ok Tryz.func17 rfl (by decide) (by simp [Tryz.f17]) rfl (fun κ v h => by cases h) Gw.below ?_
    repeat' (first | refine Tr.seq ?_ | refine Tr.region ?_ | refine Sq.ev tab_ok rfl rfl ?_ | refine Sq.nil ?_ | (refine Sq.guard rfl rfl (fun _ => ?_) (fun _ => ?_) <;> refine Sq.ev tab_ok rfl rfl ?_) | (refine Tr.cond rfl (fun _ => ?_) (fun _ => ?_) <;> try (rename_i h; cases h; done)) | refine Tr.block ?_ | refine Tr.skip ?_ | refine Tr.ret ⟨_, rfl, ?_⟩)
    refine Sq.callv rfl (hA) ?_
    repeat' (first | refine Tr.seq ?_ | refine Tr.region ?_ | refine Sq.ev tab_ok rfl rfl ?_ | refine Sq.nil ?_ | (refine Sq.guard rfl rfl (fun _ => ?_) (fun _ => ?_) <;> refine Sq.ev tab_ok rfl rfl ?_) | (refine Tr.cond rfl (fun _ => ?_) (fun _ => ?_) <;> try (rename_i h; cases h; done)) | refine Tr.block ?_ | refine Tr.skip ?_ | refine Tr.ret ⟨_, rfl, ?_⟩)
    rfl
  rw [hf] at hA
  cases ht : rightV c t
  · rw [ht] at hB
    rw [if_pos (.inr rfl)]
    refine Fn.of tab_ok Tryz.func17 rfl (by decide) (by simp [Tryz.f17]) rfl (fun κ v h => by cases h) Gw.below ?_
    repeat' (first | refine Tr.seq ?_ | refine Tr.region ?_ | refine Sq.ev tab_ok rfl rfl ?_ | refine Sq.nil ?_ | (refine Sq.guard rfl rfl (fun _ => ?_) (fun _ => ?_) <;> refine Sq.ev tab_ok rfl rfl ?_) | (refine Tr.cond rfl (fun _ => ?_) (fun _ => ?_) <;> try (rename_i h; cases h; done)) | refine Tr.block ?_ | refine Tr.skip ?_ | refine Tr.ret ⟨_, rfl, ?_⟩)
    refine Sq.callv rfl (hA) ?_
    repeat' (first | refine Tr.seq ?_ | refine Tr.region ?_ | refine Sq.ev tab_ok rfl rfl ?_ | refine Sq.nil ?_ | (refine Sq.guard rfl rfl (fun _ => ?_) (fun _ => ?_) <;> refine Sq.ev tab_ok rfl rfl ?_) | (refine Tr.cond rfl (fun _ => ?_) (fun _ => ?_) <;> try (rename_i h; cases h; done)) | refine Tr.block ?_ | refine Tr.skip ?_ | refine Tr.ret ⟨_, rfl, ?_⟩)
    refine Sq.callv rfl (hB) ?_
    repeat' (first | refine Tr.seq ?_ | refine Tr.region ?_ | refine Sq.ev tab_ok rfl rfl ?_ | refine Sq.nil ?_ | (refine Sq.guard rfl rfl (fun _ => ?_) (fun _ => ?_) <;> refine Sq.ev tab_ok rfl rfl ?_) | (refine Tr.cond rfl (fun _ => ?_) (fun _ => ?_) <;> try (rename_i h; cases h; done)) | refine Tr.block ?_ | refine Tr.skip ?_ | refine Tr.ret ⟨_, rfl, ?_⟩)
    rfl
  rw [ht] at hB
  rw [if_neg (by simp)]
  have hSf := refSettled_ok hc hlv f hf
  have hSt := refSettled_ok hc hlv t ht
  rw [← pls_r] at hSf hSt
  have hG := refGood_ok hok hlv hc (pls c f)
  have hG2 := refGood_ok hok hlv hc (pls c t)
  cases hg : goodB c (pls c f)
  · rw [hg] at hG
    rw [if_pos (.inl rfl)]
    generalize (pls c f).map rPl = L1 at *
    refine Fn.of tab_ok Tryz.func17 rfl (by decide) (by simp [Tryz.f17]) rfl (fun κ v h => by cases h) Gw.below ?_
    repeat' (first | refine Tr.seq ?_ | refine Tr.region ?_ | refine Sq.ev tab_ok rfl rfl ?_ | refine Sq.nil ?_ | (refine Sq.guard rfl rfl (fun _ => ?_) (fun _ => ?_) <;> refine Sq.ev tab_ok rfl rfl ?_) | (refine Tr.cond rfl (fun _ => ?_) (fun _ => ?_) <;> try (rename_i h; cases h; done)) | refine Tr.block ?_ | refine Tr.skip ?_ | refine Tr.ret ⟨_, rfl, ?_⟩)
    refine Sq.callv rfl (hA) ?_
    repeat' (first | refine Tr.seq ?_ | refine Tr.region ?_ | refine Sq.ev tab_ok rfl rfl ?_ | refine Sq.nil ?_ | (refine Sq.guard rfl rfl (fun _ => ?_) (fun _ => ?_) <;> refine Sq.ev tab_ok rfl rfl ?_) | (refine Tr.cond rfl (fun _ => ?_) (fun _ => ?_) <;> try (rename_i h; cases h; done)) | refine Tr.block ?_ | refine Tr.skip ?_ | refine Tr.ret ⟨_, rfl, ?_⟩)
    refine Sq.callv rfl (hB) ?_
    repeat' (first | refine Tr.seq ?_ | refine Tr.region ?_ | refine Sq.ev tab_ok rfl rfl ?_ | refine Sq.nil ?_ | (refine Sq.guard rfl rfl (fun _ => ?_) (fun _ => ?_) <;> refine Sq.ev tab_ok rfl rfl ?_) | (refine Tr.cond rfl (fun _ => ?_) (fun _ => ?_) <;> try (rename_i h; cases h; done)) | refine Tr.block ?_ | refine Tr.skip ?_ | refine Tr.ret ⟨_, rfl, ?_⟩)
    refine Tr.drawn ( DSq.ev tab_ok rfl rfl <| DSq.ev tab_ok rfl rfl <| DSq.ev tab_ok rfl rfl <| DSq.call rfl (fun _ => rfl) (hSf) <| DSq.call rfl (fun _ => rfl) (hG) <| DSq.ev tab_ok rfl rfl <| DSq.ev tab_ok rfl rfl <| DSq.ev tab_ok rfl rfl <| DSq.ev tab_ok rfl rfl <| DSq.ev tab_ok rfl rfl <| DSq.ev tab_ok rfl rfl <| DSq.ev tab_ok rfl rfl <| DSq.ev tab_ok rfl rfl <| DSq.ev tab_ok rfl rfl <| DSq.nil _) mix_ok rfl ?_
    repeat' (first | refine Tr.seq ?_ | refine Tr.region ?_ | refine Sq.ev tab_ok rfl rfl ?_ | refine Sq.nil ?_ | (refine Sq.guard rfl rfl (fun _ => ?_) (fun _ => ?_) <;> refine Sq.ev tab_ok rfl rfl ?_) | (refine Tr.cond rfl (fun _ => ?_) (fun _ => ?_) <;> try (rename_i h; cases h; done)) | refine Tr.block ?_ | refine Tr.skip ?_ | refine Tr.ret ⟨_, rfl, ?_⟩)
    rfl
  rw [hg] at hG
  cases hg2 : goodB c (pls c t)
  · rw [hg2] at hG2
    rw [if_pos (.inr rfl)]
    generalize (pls c f).map rPl = L1 at *
    generalize (pls c t).map rPl = L2 at *
    refine Fn.of tab_ok Tryz.func17 rfl (by decide) (by simp [Tryz.f17]) rfl (fun κ v h => by cases h) Gw.below ?_
    repeat' (first | refine Tr.seq ?_ | refine Tr.region ?_ | refine Sq.ev tab_ok rfl rfl ?_ | refine Sq.nil ?_ | (refine Sq.guard rfl rfl (fun _ => ?_) (fun _ => ?_) <;> refine Sq.ev tab_ok rfl rfl ?_) | (refine Tr.cond rfl (fun _ => ?_) (fun _ => ?_) <;> try (rename_i h; cases h; done)) | refine Tr.block ?_ | refine Tr.skip ?_ | refine Tr.ret ⟨_, rfl, ?_⟩)
    refine Sq.callv rfl (hA) ?_
    repeat' (first | refine Tr.seq ?_ | refine Tr.region ?_ | refine Sq.ev tab_ok rfl rfl ?_ | refine Sq.nil ?_ | (refine Sq.guard rfl rfl (fun _ => ?_) (fun _ => ?_) <;> refine Sq.ev tab_ok rfl rfl ?_) | (refine Tr.cond rfl (fun _ => ?_) (fun _ => ?_) <;> try (rename_i h; cases h; done)) | refine Tr.block ?_ | refine Tr.skip ?_ | refine Tr.ret ⟨_, rfl, ?_⟩)
    refine Sq.callv rfl (hB) ?_
    repeat' (first | refine Tr.seq ?_ | refine Tr.region ?_ | refine Sq.ev tab_ok rfl rfl ?_ | refine Sq.nil ?_ | (refine Sq.guard rfl rfl (fun _ => ?_) (fun _ => ?_) <;> refine Sq.ev tab_ok rfl rfl ?_) | (refine Tr.cond rfl (fun _ => ?_) (fun _ => ?_) <;> try (rename_i h; cases h; done)) | refine Tr.block ?_ | refine Tr.skip ?_ | refine Tr.ret ⟨_, rfl, ?_⟩)
    refine Tr.drawn ( DSq.ev tab_ok rfl rfl <| DSq.ev tab_ok rfl rfl <| DSq.ev tab_ok rfl rfl <| DSq.call rfl (fun _ => rfl) (hSf) <| DSq.call rfl (fun _ => rfl) (hG) <| DSq.ev tab_ok rfl rfl <| DSq.ev tab_ok rfl rfl <| DSq.ev tab_ok rfl rfl <| DSq.ev tab_ok rfl rfl <| DSq.ev tab_ok rfl rfl <| DSq.call rfl (fun _ => rfl) (hSt) <| DSq.call rfl (fun _ => rfl) (hG2) <| DSq.ev tab_ok rfl rfl <| DSq.ev tab_ok rfl rfl <| DSq.nil _) mix_ok rfl ?_
    repeat' (first | refine Tr.seq ?_ | refine Tr.region ?_ | refine Sq.ev tab_ok rfl rfl ?_ | refine Sq.nil ?_ | (refine Sq.guard rfl rfl (fun _ => ?_) (fun _ => ?_) <;> refine Sq.ev tab_ok rfl rfl ?_) | (refine Tr.cond rfl (fun _ => ?_) (fun _ => ?_) <;> try (rename_i h; cases h; done)) | refine Tr.block ?_ | refine Tr.skip ?_ | refine Tr.ret ⟨_, rfl, ?_⟩)
    rfl
  rw [hg2] at hG2
  rw [if_neg (by simp)]
  obtain ⟨hfl, hfa⟩ := rightV_at hf
  obtain ⟨htl, hta⟩ := rightV_at ht
  generalize (pls c f).map rPl = L1 at *
  generalize (pls c t).map rPl = L2 at *
  refine Fn.of tab_ok Tryz.func17 rfl (by decide) (by simp [Tryz.f17]) rfl (fun κ v h => by cases h) Gw.below ?_
  repeat' (first | refine Tr.seq ?_ | refine Tr.region ?_ | refine Sq.ev tab_ok rfl rfl ?_ | refine Sq.nil ?_ | (refine Sq.guard rfl rfl (fun _ => ?_) (fun _ => ?_) <;> refine Sq.ev tab_ok rfl rfl ?_) | (refine Tr.cond rfl (fun _ => ?_) (fun _ => ?_) <;> try (rename_i h; cases h; done)) | refine Tr.block ?_ | refine Tr.skip ?_ | refine Tr.ret ⟨_, rfl, ?_⟩)
  refine Sq.callv rfl (hA) ?_
  repeat' (first | refine Tr.seq ?_ | refine Tr.region ?_ | refine Sq.ev tab_ok rfl rfl ?_ | refine Sq.nil ?_ | (refine Sq.guard rfl rfl (fun _ => ?_) (fun _ => ?_) <;> refine Sq.ev tab_ok rfl rfl ?_) | (refine Tr.cond rfl (fun _ => ?_) (fun _ => ?_) <;> try (rename_i h; cases h; done)) | refine Tr.block ?_ | refine Tr.skip ?_ | refine Tr.ret ⟨_, rfl, ?_⟩)
  refine Sq.callv rfl (hB) ?_
  repeat' (first | refine Tr.seq ?_ | refine Tr.region ?_ | refine Sq.ev tab_ok rfl rfl ?_ | refine Sq.nil ?_ | (refine Sq.guard rfl rfl (fun _ => ?_) (fun _ => ?_) <;> refine Sq.ev tab_ok rfl rfl ?_) | (refine Tr.cond rfl (fun _ => ?_) (fun _ => ?_) <;> try (rename_i h; cases h; done)) | refine Tr.block ?_ | refine Tr.skip ?_ | refine Tr.ret ⟨_, rfl, ?_⟩)
  refine Tr.drawn ( DSq.ev tab_ok rfl rfl <| DSq.ev tab_ok rfl rfl <| DSq.ev tab_ok rfl rfl <| DSq.call rfl (fun _ => rfl) (hSf) <| DSq.call rfl (fun _ => rfl) (hG) <| DSq.ev tab_ok rfl rfl <| DSq.ev tab_ok rfl rfl <| DSq.ev tab_ok rfl rfl <| DSq.ev tab_ok rfl rfl <| DSq.ev tab_ok rfl rfl <| DSq.call rfl (fun _ => rfl) (hSt) <| DSq.call rfl (fun _ => rfl) (hG2) <| DSq.ev tab_ok rfl rfl <| DSq.ev tab_ok rfl rfl <| DSq.nil _) mix_ok rfl ?_
  repeat' (first | refine Tr.seq ?_ | refine Tr.region ?_ | refine Sq.ev tab_ok rfl rfl ?_ | refine Sq.nil ?_ | (refine Sq.guard rfl rfl (fun _ => ?_) (fun _ => ?_) <;> refine Sq.ev tab_ok rfl rfl ?_) | (refine Tr.cond rfl (fun _ => ?_) (fun _ => ?_) <;> try (rename_i h; cases h; done)) | refine Tr.block ?_ | refine Tr.skip ?_ | refine Tr.ret ⟨_, rfl, ?_⟩)
  refine Tr.loopS (fun i : Nat => [(.s 1, .tr (.ls (f.map intT))), (.s 2, .tr (.ls (t.map intT))), (.s 3, .ptr (.l 3) 0), (.l 3, .blk 29 [.tr (.ls (c.map svcT))]), (.s 7, int i)]) (fun i => f.length - i) (fun i => i ≤ f.length ∧ ∀ k, k < i → (decide (riseV c f t k < 0) || decide (riseV c f t k > 1)) = false)
    0 ⟨by omega, by intro b hb; omega⟩ (Sub.app (l := [_, _, _, _, _]) (H := []) ⟨rfl, rfl, rfl, rfl, rfl, trivial⟩ (fun κ v h => nomatch h)) ?_
  rintro i ⟨hi, hno⟩
  repeat' (first | refine Tr.seq ?_ | refine Tr.region ?_ | refine Sq.ev tab_ok rfl rfl ?_ | refine Sq.nil ?_ | (refine Sq.guard rfl rfl (fun _ => ?_) (fun _ => ?_) <;> refine Sq.ev tab_ok rfl rfl ?_) | (refine Tr.cond rfl (fun _ => ?_) (fun _ => ?_) <;> try (rename_i h; cases h; done)) | refine Tr.block ?_ | refine Tr.skip ?_ | refine Tr.ret ⟨_, rfl, ?_⟩)
  · rename_i h2
    have h2 : decide ((i : Int) < ((f.map intT).length : Int)) = true := h2
    have hlt : i < f.length := by simp only [List.length_map, decide_eq_true_eq] at h2; omega
    obtain ⟨v, s, r, hv, hs, hv0, hr, hrel⟩ := hfa i hlt
    obtain ⟨w, s', g, hw, hs', hw0, hq, hqel⟩ := hta i (by omega)
    obtain rfl : s = s' := by rw [hs] at hs'; exact Option.some.inj hs'
    obtain ⟨l0, l1⟩ := (hlv s (List.mem_of_getElem? hs)).2 r (List.mem_of_getElem? hr)
    obtain ⟨m0, m1⟩ := (hlv s (List.mem_of_getElem? hs)).2 g (List.mem_of_getElem? hq)
    have hve : (f.map intT)[((i : Nat) : Int).toNat]? = some (intT v) := by simp [hv]
    have hwe : (t.map intT)[((i : Nat) : Int).toNat]? = some (intT w) := by simp [hw]
    have hse : (c.map svcT)[((i : Nat) : Int).toNat]? = some (svcT s) := by simp [hs]
    have hre : (s.rels.map rlsT)[v.toNat]? = some (rlsT r) := by simp [hr]
    have hqe : (s.rels.map rlsT)[w.toNat]? = some (rlsT g) := by simp [hq]
    have hrise : riseV c f t i = g.level - r.level := by unfold riseV lvl; rw [vAt_of hv, vAt_of hw, hrel, hqel]
    refine Tr.drawn ( DSq.ev tab_ok rfl rfl <| DSq.ev tab_ok rfl rfl <| DSq.ev tab_ok rfl rfl <| DSq.one rfl (fun q K hK => Sq.index (x := svcT s) tab_ok rfl (by omega) (hse) rfl (Sq.nil hK)) <| DSq.ev tab_ok rfl rfl <| DSq.ev tab_ok rfl rfl <| DSq.ev tab_ok rfl rfl <| DSq.ev tab_ok rfl rfl <| DSq.one rfl (fun q K hK => Sq.index (x := intT w) tab_ok rfl (by omega) (hwe) rfl (Sq.nil hK)) <| DSq.ev tab_ok rfl rfl <| DSq.one rfl (fun q K hK => Sq.index (x := rlsT g) tab_ok rfl (by omega) (hqe) rfl (Sq.nil hK)) <| DSq.ev tab_ok rfl rfl <| DSq.ev tab_ok rfl rfl <| DSq.ev tab_ok rfl rfl <| DSq.ev tab_ok rfl rfl <| DSq.ev tab_ok rfl rfl <| DSq.one rfl (fun q K hK => Sq.index (x := svcT s) tab_ok rfl (by omega) (hse) rfl (Sq.nil hK)) <| DSq.ev tab_ok rfl rfl <| DSq.ev tab_ok rfl rfl <| DSq.ev tab_ok rfl rfl <| DSq.ev tab_ok rfl rfl <| DSq.one rfl (fun q K hK => Sq.index (x := intT v) tab_ok rfl (by omega) (hve) rfl (Sq.nil hK)) <| DSq.ev tab_ok rfl rfl <| DSq.one rfl (fun q K hK => Sq.index (x := rlsT r) tab_ok rfl (by omega) (hre) rfl (Sq.nil hK)) <| DSq.ev tab_ok rfl rfl <| DSq.ev tab_ok rfl rfl <| DSq.evr tab_ok rfl (congrArg int (Go.IntWalk.i64_in (g.level - r.level) ⟨by omega, by omega⟩)) <| DSq.ev tab_ok rfl rfl <| DSq.nil _) mix_ok rfl ?_
    have hany : ∀ z, riseV c f t i = z → (decide (z < 0) || decide (z > 1)) = true → ((List.range f.length).any fun i => decide (riseV c f t i < 0) || decide (riseV c f t i > 1)) = true := fun z hz h => List.any_eq_true.2 ⟨i, List.mem_range.2 hlt, by rw [hz]; exact h⟩
    have hnx : ∀ z, riseV c f t i = z → (decide (z < 0) || decide (z > 1)) = false → ∀ k, k < i + 1 → (decide (riseV c f t k < 0) || decide (riseV c f t k > 1)) = false := fun z hz h k hk => by
      rcases Nat.lt_succ_iff_lt_or_eq.1 hk with h3 | rfl
      · exact hno k h3
      · rw [hz]; exact h
    rw [← hrise]
    generalize hz : riseV c f t i = z at *
    repeat' (first | refine Tr.seq ?_ | refine Tr.region ?_ | refine Sq.ev tab_ok rfl rfl ?_ | refine Sq.nil ?_ | (refine Sq.guard rfl rfl (fun _ => ?_) (fun _ => ?_) <;> refine Sq.ev tab_ok rfl rfl ?_) | (refine Tr.cond rfl (fun _ => ?_) (fun _ => ?_) <;> try (rename_i h; cases h; done)) | refine Tr.block ?_ | refine Tr.skip ?_ | refine Tr.ret ⟨_, rfl, ?_⟩)
    · rename_i h3 h4
      have h3 : (z != 0) = true := h3
      have h4 : (z != 1) = true := h4
      show int 43 = int _
      rw [if_pos (hany z rfl (by rw [bne_iff_ne] at h3 h4; rw [Bool.or_eq_true, decide_eq_true_eq, decide_eq_true_eq]; omega))]
    · rename_i h3 h4
      have h4 : (z != 1) = false := h4
      exact ⟨i + 1, ⟨by omega, hnx z rfl (by simp at h4; subst h4; rfl)⟩, by omega, Sub.app (l := [_, _, _, _, _]) (H := []) ⟨rfl, rfl, rfl, rfl, congrArg some (wrapz (by omega) (by omega) (by omega)), trivial⟩ (fun κ v h => nomatch h)⟩
    · rename_i h3 _
      have h3 : (z != 0) = false := h3
      exact ⟨i + 1, ⟨by omega, hnx z rfl (by simp at h3; subst h3; rfl)⟩, by omega, Sub.app (l := [_, _, _, _, _]) (H := []) ⟨rfl, rfl, rfl, rfl, congrArg some (wrapz (by omega) (by omega) (by omega)), trivial⟩ (fun κ v h => nomatch h)⟩
  · rename_i h2
    have h2 : decide ((i : Int) < ((f.map intT).length : Int)) = false := h2
    have : i = f.length := by simp only [List.length_map, decide_eq_false_iff_not] at h2; omega
    subst this
    refine Tr.exit ?_
    repeat' (first | refine Tr.seq ?_ | refine Tr.region ?_ | refine Sq.ev tab_ok rfl rfl ?_ | refine Sq.nil ?_ | (refine Sq.guard rfl rfl (fun _ => ?_) (fun _ => ?_) <;> refine Sq.ev tab_ok rfl rfl ?_) | (refine Tr.cond rfl (fun _ => ?_) (fun _ => ?_) <;> try (rename_i h; cases h; done)) | refine Tr.block ?_ | refine Tr.skip ?_ | refine Tr.ret ⟨_, rfl, ?_⟩)
    show int 0 = int _
    rw [if_neg]
    intro h
    obtain ⟨k, hk, h⟩ := List.any_eq_true.1 h
    rw [hno k (List.mem_range.1 hk)] at h
    cases h
end Go.Lg.Tryz

set_option linter.unusedVariables false
set_option linter.unusedSimpArgs false
namespace Go.Lg.Tryz
open Go Go.Proofs Go.RowKit Go.Lib Go.Lg.Sem
end Go.Lg.Tryz

set_option linter.unusedVariables false
set_option linter.unusedSimpArgs false
namespace Go.Lg.Tryz
open Go Go.Proofs Go.RowKit Go.Lib Go.Lg.Sem
def plainB (f t : List Int) (l : List Stp) (e : List (Nat × Nat)) : Bool := decide (f.length ≤ 30) && (decide (t.length ≤ 30) && (decide (l.length ≤ 40) && decide (e.length ≤ 200)))
end Go.Lg.Tryz

set_option linter.unusedVariables false
set_option linter.unusedSimpArgs false
namespace Go.Lg.Tryz
open Go Go.Proofs Go.RowKit Go.Lib Go.Lg.Sem
theorem cycP_ex (n : Nat) (es : List (Nat × Nat)) : ∃ cyc : Bool, cyc = true ↔ CycP n es := by
  classical exact ⟨decide (CycP n es), by simp⟩
end Go.Lg.Tryz

set_option linter.unusedVariables false
set_option linter.unusedSimpArgs false
namespace Go.Lg.Tryz
open Go Go.Proofs Go.RowKit Go.Lib Go.Lg.Sem
def cntS (l : List Stp) (j : Nat) : Nat := (l.filter fun a => a.s == j).length
def rowS (n : Nat) (l : List Stp) : List T := (List.range n).map fun j => intT (cntS l j)
end Go.Lg.Tryz

set_option linter.unusedVariables false
set_option linter.unusedSimpArgs false
namespace Go.Lg.Tryz
open Go Go.Proofs Go.RowKit Go.Lib Go.Lg.Sem
theorem bit_set (g : BitVec 64) {i : Nat} (hi : i < 64) (j : Nat) : (g ||| 1#64 <<< i).getLsbD j = (g.getLsbD j || decide (j = i)) := by
  rw [BitVec.getLsbD_or, BitVec.getLsbD_shiftLeft]
  congr 1
  by_cases h : j = i
  · subst h; simp [hi]
  · rw [decide_eq_false h]
    by_cases h1 : j < i
    · simp [h1]
    · have : j - i ≠ 0 := by omega
      simp [BitVec.getLsbD_one, this]
def nowV (f t : List Int) (g : BitVec 64) (i : Nat) : Int := if g.getLsbD i then vAt t i else vAt f i
def doneUp (f t : List Int) (g : BitVec 64) (k : Nat) : Bool := (List.range k).all fun i => nowV f t g i == vAt t i
def okB (c : Ctl) (f t : List Int) (g : BitVec 64) : Bool := (List.range f.length).all fun i => (List.range i).all fun j => fitsB c i (nowV f t g i) j (nowV f t g j)
def ordB (c : Ctl) (f t : List Int) : Nat → BitVec 64 → Bool
  | 0, g => okB c f t g && doneUp f t g f.length
  | n + 1, g => okB c f t g && (doneUp f t g f.length || (List.range f.length).any fun i => (nowV f t g i != vAt t i) && ordB c f t n (g ||| 1#64 <<< i))
def remN (f t : List Int) (g : BitVec 64) : Nat := ((List.range f.length).filter fun i => nowV f t g i != vAt t i).length
theorem filter_lt {α : Type} (p q : α → Bool) (x : α) : ∀ (l : List α), (∀ y, q y = true → p y = true) → x ∈ l → p x = true → q x = false → (l.filter q).length < (l.filter p).length
  | [], _, h, _, _ => by cases h
  | y :: l, hpq, hx, h1, h2 => by
    have hle : (l.filter q).length ≤ (l.filter p).length := by
      clear hx
      induction l with
      | nil => simp
      | cons z l ih =>
        cases hq : q z
        · cases hp : p z <;> simp [List.filter_cons, hq, hp]
          · exact ih
          · omega
        · simp [List.filter_cons, hq, hpq z hq]; exact ih
    rcases List.mem_cons.1 hx with rfl | hx
    · simp [List.filter_cons, h1, h2]; omega
    · have ih := filter_lt p q x l hpq hx h1 h2
      cases hq : q y
      · cases hp : p y <;> simp [List.filter_cons, hq, hp]
        · exact ih
        · omega
      · simp [List.filter_cons, hq, hpq y hq]; exact ih
theorem now_set (f t : List Int) (g : BitVec 64) {i : Nat} (hi : i < 64) (j : Nat) : nowV f t (g ||| 1#64 <<< i) j = if j = i then vAt t i else nowV f t g j := by
  unfold nowV
  rw [bit_set g hi]
  by_cases h : j = i
  · subst h; simp
  · simp [h]
theorem rem_lt (f t : List Int) (g : BitVec 64) {i : Nat} (hi : i < 64) (hil : i < f.length) (hn : nowV f t g i ≠ vAt t i) : remN f t (g ||| 1#64 <<< i) < remN f t g := by
  unfold remN
  refine filter_lt _ _ i _ (fun y hy => ?_) (List.mem_range.2 hil) (by simpa using hn) (by rw [now_set f t g hi]; simp)
  rw [now_set f t g hi] at hy
  by_cases h : y = i
  · subst h; simp at hy
  · rw [if_neg h] at hy; exact hy
theorem done_rem (f t : List Int) (g : BitVec 64) (h : remN f t g = 0) : doneUp f t g f.length = true := by
  unfold doneUp
  rw [List.all_eq_true]
  intro i hi
  unfold remN at h
  rw [List.length_eq_zero_iff, List.filter_eq_nil_iff] at h
  simpa using h i hi
theorem ord_ok (c : Ctl) (f t : List Int) : ∀ (n : Nat) (g : BitVec 64), ordB c f t n g = true → okB c f t g = true
  | 0, g, h => by unfold ordB at h; rw [Bool.and_eq_true] at h; exact h.1
  | n + 1, g, h => by unfold ordB at h; rw [Bool.and_eq_true] at h; exact h.1
theorem ok_fits {c : Ctl} {f t : List Int} {g : BitVec 64} (h : okB c f t g = true) {a b : Nat} (ha : a < f.length) (hb : b < f.length) (hne : a ≠ b) : fitsB c a (nowV f t g a) b (nowV f t g b) = true := by
  unfold okB at h
  rw [List.all_eq_true] at h
  rcases Nat.lt_or_ge b a with hl | hl
  · exact List.all_eq_true.1 (h a (List.mem_range.2 ha)) b (List.mem_range.2 hl)
  · rw [fits_comm]; exact List.all_eq_true.1 (h b (List.mem_range.2 hb)) a (List.mem_range.2 (by omega))
def bfr (c : Ctl) (f t : List Int) (a b : Nat) : Prop := a < f.length ∧ b < f.length ∧ a ≠ b ∧ vAt f a ≠ vAt t a ∧ vAt f b ≠ vAt t b ∧ fitsB c a (vAt f a) b (vAt t b) = false
theorem ord_pos {c : Ctl} {f t : List Int} (hl : f.length ≤ 64) : ∀ (n : Nat) (g : BitVec 64), ordB c f t n g = true → ∃ pos : Nat → Nat, ∀ a b, bfr c f t a b → g.getLsbD a = false → g.getLsbD b = false → pos a < pos b := by
  have hdone : ∀ g, doneUp f t g f.length = true → ∃ pos : Nat → Nat, ∀ a b, bfr c f t a b → g.getLsbD a = false → g.getLsbD b = false → pos a < pos b := fun g hd => by
    refine ⟨fun _ => 0, fun a b hab ha hb => ?_⟩
    obtain ⟨h1, _, _, h4, _⟩ := hab
    unfold doneUp at hd
    have := List.all_eq_true.1 hd a (List.mem_range.2 h1)
    unfold nowV at this
    rw [ha] at this
    simp at this
    exact absurd this h4
  intro n
  induction n with
  | zero =>
    intro g h
    unfold ordB at h
    rw [Bool.and_eq_true] at h
    exact hdone g h.2
  | succ n ih =>
    intro g h
    unfold ordB at h
    rw [Bool.and_eq_true, Bool.or_eq_true] at h
    obtain ⟨_, h | h⟩ := h
    · exact hdone g h
    · obtain ⟨i, hi, h⟩ := List.any_eq_true.1 h
      have hi := List.mem_range.1 hi
      rw [Bool.and_eq_true] at h
      obtain ⟨h1, h2⟩ := h
      have hok := ord_ok c f t _ _ h2
      obtain ⟨pos, hp⟩ := ih _ h2
      refine ⟨fun a => if a = i then 0 else pos a + 1, fun a b hab ha hb => ?_⟩
      have hab' := hab
      obtain ⟨q1, q2, q3, q4, q5, q6⟩ := hab
      show (if a = i then 0 else pos a + 1) < (if b = i then 0 else pos b + 1)
      by_cases e1 : a = i
      · rw [if_pos e1, if_neg (fun e => q3 (e1.trans e.symm))]; omega
      · rw [if_neg e1]
        by_cases e2 : b = i
        · exfalso
          have := ok_fits hok q1 q2 q3
          rw [now_set f t g (by omega), now_set f t g (by omega), if_neg e1, if_pos e2] at this
          unfold nowV at this
          rw [ha, ← e2] at this
          simp at this
          rw [this] at q6; cases q6
        · rw [if_neg e2]
          have hb1 : (g ||| 1#64 <<< i).getLsbD a = false := by rw [bit_set g (by omega), ha, decide_eq_false e1]; rfl
          have hb2 : (g ||| 1#64 <<< i).getLsbD b = false := by rw [bit_set g (by omega), hb, decide_eq_false e2]; rfl
          have := hp a b hab' hb1 hb2
          omega
theorem ord_acyc {c : Ctl} {f t : List Int} (hl : f.length ≤ 64) (n : Nat) (h : ordB c f t n 0#64 = true) : ¬ CycP (stepsV c f t).length (befV c f t) := by
  obtain ⟨pos, hp⟩ := ord_pos hl n _ h
  rintro ⟨x, hx, hw⟩
  have key : ∀ i k, EdgeWay (befV c f t) i k → ∀ a b, (stepsV c f t)[i]? = some a → (stepsV c f t)[k]? = some b → 4 * pos a.s + a.k < 4 * pos b.s + b.k := by
    have one : ∀ i k, (i, k) ∈ befV c f t → ∀ a b, (stepsV c f t)[i]? = some a → (stepsV c f t)[k]? = some b → 4 * pos a.s + a.k < 4 * pos b.s + b.k := by
      intro i k he a b ha hb
      obtain ⟨a', b', ha', hb', hab⟩ := bef_mem.1 he
      rw [ha] at ha'; obtain rfl := Option.some.inj ha'
      rw [hb] at hb'; obtain rfl := Option.some.inj hb'
      obtain ⟨a1, a2⟩ := stepsUp_mem.1 (List.mem_of_getElem? ha)
      obtain ⟨b1, b2⟩ := stepsUp_mem.1 (List.mem_of_getElem? hb)
      unfold aheadS at hab
      split at hab
      · rename_i e; rw [beq_iff_eq] at hab; rw [e]; omega
      · rename_i e
        simp only [Bool.and_eq_true, beq_iff_eq, Bool.not_eq_true'] at hab
        obtain ⟨⟨k1, k2⟩, hf⟩ := hab
        have da : vAt f a.s ≠ vAt t a.s := fun e => by unfold stepsAt at a2; rw [if_pos e] at a2; cases a2
        have db : vAt f b.s ≠ vAt t b.s := fun e => by unfold stepsAt at b2; rw [if_pos e] at b2; cases b2
        have := hp a.s b.s ⟨a1, b1, e, da, db, hf⟩ (by simp) (by simp)
        omega
    intro i k hw
    induction hw with
    | one e => exact one _ _ e
    | @snoc m k _ e ih =>
      intro a b ha hb
      obtain ⟨m', _, hm, _, _⟩ := bef_mem.1 e
      exact Nat.lt_trans (ih a m' ha hm) (one _ _ e m' b hm hb)
  obtain ⟨a, ha⟩ : ∃ a, (stepsV c f t)[x]? = some a := ⟨_, List.getElem?_eq_getElem hx⟩
  exact Nat.lt_irrefl _ (key x x hw a a ha ha)
theorem acyc_ord {c : Ctl} {f t : List Int} (he : Ends0 c f t) (hlv : LvOk c) (hl : f.length ≤ 64) (hn : ¬ CycP (stepsV c f t).length (befV c f t)) : ∀ (n : Nat) (g : BitVec 64), remN f t g ≤ n → (∀ a b, bfr c f t a b → g.getLsbD b = true → g.getLsbD a = true) → ordB c f t n g = true := by
  have htl : t.length = f.length := (rightV_at he.rt).1.trans (rightV_at he.rf).1.symm
  have hok : ∀ g : BitVec 64, (∀ a b, bfr c f t a b → g.getLsbD b = true → g.getLsbD a = true) → okB c f t g = true := by
    intro g hc
    have mix : ∀ a b, a < f.length → b < f.length → a ≠ b → g.getLsbD a = false → g.getLsbD b = true → fitsB c a (vAt f a) b (vAt t b) = true := by
      intro a b ha hb hne ga gb
      by_cases e1 : vAt f a = vAt t a
      · rw [e1]; exact good_fits hlv he.rt he.gt (by omega) (by omega) hne
      by_cases e2 : vAt f b = vAt t b
      · rw [← e2]; exact good_fits hlv he.rf he.gf ha hb hne
      · cases hfx : fitsB c a (vAt f a) b (vAt t b) with
        | true => rfl
        | false =>
          have := hc a b ⟨ha, hb, hne, e1, e2, hfx⟩ gb
          rw [ga] at this; cases this
    unfold okB
    rw [List.all_eq_true]
    intro i hi
    rw [List.all_eq_true]
    intro j hj
    have hi := List.mem_range.1 hi
    have hj := List.mem_range.1 hj
    unfold nowV
    cases gi : g.getLsbD i <;> cases gj : g.getLsbD j
    · exact good_fits hlv he.rf he.gf hi (by omega) (by omega)
    · exact mix i j hi (by omega) (by omega) gi gj
    · show fitsB c i (vAt t i) j (vAt f j) = true
      rw [fits_comm]; exact mix j i (by omega) hi (by omega) gj gi
    · exact good_fits hlv he.rt he.gt (by omega) (by omega) (by omega)
  intro n
  induction n with
  | zero =>
    intro g hr hc
    unfold ordB
    rw [hok g hc, done_rem f t g (by omega)]; rfl
  | succ n ih =>
    intro g hr hc
    unfold ordB
    rw [hok g hc, Bool.true_and, Bool.or_eq_true]
    cases hd : doneUp f t g f.length with
    | true => exact .inl rfl
    | false =>
      refine .inr ?_
      -- a deploy that is left with all before it gone
      have hex : ∃ i, i < f.length ∧ g.getLsbD i = false ∧ vAt f i ≠ vAt t i ∧ ∀ a, bfr c f t a i → g.getLsbD a = true := by
        apply Classical.byContradiction
        intro hno
        apply hn
        have hd' : ∃ i, i < f.length ∧ g.getLsbD i = false ∧ vAt f i ≠ vAt t i := by
          unfold doneUp at hd
          rw [← Bool.not_eq_true, List.all_eq_true] at hd
          apply Classical.byContradiction
          intro hh
          refine hd fun i hi => ?_
          rw [beq_iff_eq]
          unfold nowV
          cases gi : g.getLsbD i with
          | true => rfl
          | false =>
            apply Classical.byContradiction
            intro hne
            exact hh ⟨i, List.mem_range.1 hi, gi, hne⟩
        have hst : ∀ i, i < f.length → vAt f i ≠ vAt t i → ∃ k, (stepsV c f t)[k]? = some (⟨i, 2⟩ : Stp) := fun i hi hne => by
          have : (⟨i, 2⟩ : Stp) ∈ stepsV c f t := (step_in hi 2).2 ⟨hne, by split <;> simp⟩
          exact List.mem_iff_getElem?.1 this
        obtain ⟨i0, hi0, g0, d0⟩ := hd'
        obtain ⟨k0, hk0⟩ := hst i0 hi0 d0
        refine circle_of _ (fun k => ∃ i, (stepsV c f t)[k]? = some (⟨i, 2⟩ : Stp) ∧ i < f.length ∧ g.getLsbD i = false ∧ vAt f i ≠ vAt t i) ?_ k0 ⟨i0, hk0, hi0, g0, d0⟩
        rintro k ⟨i, hk, hi, gi, di⟩
        refine ⟨(List.getElem?_eq_some_iff.1 hk).1, ?_⟩
        have : ∃ a, bfr c f t a i ∧ g.getLsbD a = false := by
          apply Classical.byContradiction
          intro hh
          refine hno ⟨i, hi, gi, di, fun a ha => ?_⟩
          cases ga : g.getLsbD a with
          | true => rfl
          | false => exact (hh ⟨a, ha, ga⟩).elim
        obtain ⟨a, hab, ga⟩ := this
        obtain ⟨q1, q2, q3, q4, q5, q6⟩ := hab
        obtain ⟨ka, hka⟩ := hst a q1 q4
        refine ⟨ka, ⟨a, hka, q1, ga, q4⟩, ?_⟩
        refine bef_mem.2 ⟨_, _, hka, hk, ?_⟩
        unfold aheadS
        rw [if_neg q3]
        simp [q6]
      obtain ⟨i, hi, gi, di, hpre⟩ := hex
      have hni : nowV f t g i ≠ vAt t i := by unfold nowV; rw [gi]; simpa using di
      refine List.any_eq_true.2 ⟨i, List.mem_range.2 hi, ?_⟩
      rw [Bool.and_eq_true]
      refine ⟨by simpa using hni, ih _ (by have := rem_lt f t g (by omega) hi hni; omega) ?_⟩
      intro a b hab hb
      rw [bit_set g (by omega), Bool.or_eq_true] at hb ⊢
      rcases hb with hb | hb
      · exact .inl (hc a b hab hb)
      · rw [decide_eq_true_eq] at hb
        subst hb
        exact .inl (hpre a hab)
end Go.Lg.Tryz

set_option linter.unusedVariables false
set_option linter.unusedSimpArgs false
namespace Go.Lg.Tryz
open Go Go.Proofs Go.RowKit Go.Lib Go.Lg.Sem
theorem in_bit (g : BitVec 64) (k : Nat) : (Int.tmod ((g >>> k).toNat : Int) 2 == 1) = g.getLsbD k := by
  have h1 : Int.tmod ((g >>> k).toNat : Int) 2 = (((g >>> k).toNat % 2 : Nat) : Int) := rfl
  have h2 : g.getLsbD k = (g >>> k).getLsbD 0 := by rw [BitVec.getLsbD_ushiftRight, Nat.add_zero]
  rw [h1, h2]
  show _ = (g >>> k).toNat.testBit 0
  rw [Nat.testBit_zero, Bool.eq_iff_iff, beq_iff_eq, decide_eq_true_eq]
  omega
theorem In_ok (g : BitVec 64) (k : Nat) (hk : k ≤ 63) : Fn Tryz.prog Gw 24 [u64 g, int k] [] (· = bool (g.getLsbD k)) := by
  refine Fn.of tab_ok Tryz.func24 rfl (by decide) (by simp [Tryz.f24]) rfl (fun κ v h => by cases h) Gw.below ?_
  repeat' (first | refine Tr.seq ?_ | refine Tr.region ?_ | refine Sq.ev tab_ok rfl rfl ?_ | refine Sq.nil ?_ | (refine Sq.guard rfl rfl (fun _ => ?_) (fun _ => ?_) <;> refine Sq.ev tab_ok rfl rfl ?_) | (refine Tr.cond rfl (fun _ => ?_) (fun _ => ?_) <;> try (rename_i h; cases h; done)) | refine Tr.block ?_ | refine Tr.skip ?_ | refine Tr.ret ⟨_, rfl, ?_⟩)
  refine Sq.shift rfl g k rfl rfl (by omega) ?_
  refine Sq.div (q := false) rfl (by decide) rfl ?_
  repeat' (first | refine Tr.seq ?_ | refine Tr.region ?_ | refine Sq.ev tab_ok rfl rfl ?_ | refine Sq.nil ?_ | (refine Sq.guard rfl rfl (fun _ => ?_) (fun _ => ?_) <;> refine Sq.ev tab_ok rfl rfl ?_) | (refine Tr.cond rfl (fun _ => ?_) (fun _ => ?_) <;> try (rename_i h; cases h; done)) | refine Tr.block ?_ | refine Tr.skip ?_ | refine Tr.ret ⟨_, rfl, ?_⟩)
  show bool (Int.tmod ((g >>> k).toNat : Int) 2 == 1) = _
  rw [in_bit]
def nowUp (f t : List Int) (g : BitVec 64) (k : Nat) : List Int := (List.range f.length).map fun i => if i < k then nowV f t g i else vAt f i
theorem nowUp_len (f t : List Int) (g : BitVec 64) (k : Nat) : (nowUp f t g k).length = f.length := by unfold nowUp; simp
theorem nowUp_at (f t : List Int) (g : BitVec 64) (k : Nat) {i : Nat} (hi : i < f.length) : (nowUp f t g k)[i]? = some (if i < k then nowV f t g i else vAt f i) := by
  unfold nowUp; rw [List.getElem?_map, List.getElem?_range hi]; rfl
theorem nowUp_zero (f t : List Int) (g : BitVec 64) : nowUp f t g 0 = f := by
  apply List.ext_getElem?
  intro i
  by_cases hi : i < f.length
  · rw [nowUp_at f t g 0 hi, if_neg (by omega)]
    unfold vAt
    rw [List.getD_eq_getElem?_getD, List.getElem?_eq_getElem hi]; rfl
  · rw [List.getElem?_eq_none (by rw [nowUp_len]; omega), List.getElem?_eq_none (by omega)]
theorem nowUp_t {f t : List Int} {g : BitVec 64} {k : Nat} (hk : k < f.length) (hb : g.getLsbD k = true) : (nowUp f t g k).set k (vAt t k) = nowUp f t g (k + 1) := by
  apply List.ext_getElem?
  intro i
  by_cases hi : i < f.length
  · rw [nowUp_at f t g (k + 1) hi]
    by_cases e : k = i
    · subst e
      rw [List.getElem?_set_self (by rw [nowUp_len]; exact hk), if_pos (by omega)]
      unfold nowV; rw [if_pos hb]
    · rw [List.getElem?_set_ne e, nowUp_at f t g k hi]
      by_cases h : i < k
      · rw [if_pos h, if_pos (by omega)]
      · rw [if_neg h, if_neg (by omega)]
  · rw [List.getElem?_eq_none (by rw [List.length_set, nowUp_len]; omega), List.getElem?_eq_none (by rw [nowUp_len]; omega)]
theorem nowUp_f {f t : List Int} {g : BitVec 64} {k : Nat} (hk : k < f.length) (hb : g.getLsbD k = false) : nowUp f t g (k + 1) = nowUp f t g k := by
  apply List.ext_getElem?
  intro i
  by_cases hi : i < f.length
  · rw [nowUp_at f t g (k + 1) hi, nowUp_at f t g k hi]
    by_cases e : k = i
    · subst e
      rw [if_pos (by omega), if_neg (by omega)]
      unfold nowV; rw [hb]; rfl
    · by_cases h : i < k
      · rw [if_pos h, if_pos (by omega)]
      · rw [if_neg h, if_neg (by omega)]
  · rw [List.getElem?_eq_none (by rw [nowUp_len]; omega), List.getElem?_eq_none (by rw [nowUp_len]; omega)]
theorem done_succ (f t : List Int) (g : BitVec 64) (k : Nat) : doneUp f t g (k + 1) = (doneUp f t g k && (nowV f t g k == vAt t k)) := by
  unfold doneUp; rw [List.range_succ, List.all_append]; simp
set_option maxRecDepth 8192 in
theorem Ordered_step {c : Ctl} (hok : Ctl.ok c) {f t : List Int} (h1 : 1 ≤ f.length) (h64 : f.length ≤ 63) (htl : t.length = f.length) (g : BitVec 64) (R : Nat → Bool)
    (hR : ∀ i, i < f.length → nowV f t g i ≠ vAt t i → Fn Tryz.prog Gw 18 [.tr (ctlT c), .tr (.ls (f.map intT)), .tr (.ls (t.map intT)), u64 (g ||| 1#64 <<< i)] [] (· = bool (R i))) :
    Fn Tryz.prog Gw 18 [.tr (ctlT c), .tr (.ls (f.map intT)), .tr (.ls (t.map intT)), u64 g] [] (· = bool (okB c f t g && (doneUp f t g f.length || (List.range f.length).any fun i => (nowV f t g i != vAt t i) && R i))) := by
  refine Fn.of tab_ok Tryz.func18 rfl (by decide) (by simp [Tryz.f18]) rfl (fun κ v h => by cases h) Gw.below ?_
  refine Tr.seq ?_
  refine Tr.region ?_
  refine Sq.ev tab_ok rfl rfl ?_
  refine Sq.ev tab_ok rfl rfl ?_
  refine Sq.nil ?_
  refine Tr.seq ?_
  refine Tr.region ?_
  refine Sq.lit0R tab_ok rfl ?_
  refine Sq.ev tab_ok rfl rfl ?_
  refine Sq.appendR tab_ok rfl (fun y hy => by obtain ⟨a, _, rfl⟩ := List.mem_map.1 hy; rfl) (by rw [List.length_map]; simp; omega) ?_
  refine Sq.ev tab_ok rfl rfl ?_
  refine Sq.nil ?_
  refine Tr.seq ?_
  refine Tr.sub (m' := [(.s 1, .tr (.ls (f.map intT))), (.s 2, .tr (.ls (t.map intT))), (.s 3, u64 g), (.s 4, .ptr (.l 4) 0), (.l 4, .blk 29 [.tr (.ls (c.map svcT))]), (.s 9, .raw 3 true (f.map intT))]) ⟨rfl, rfl, rfl, rfl, rfl, rfl, trivial⟩ ?_
  refine Tr.thaw tab_ok 9 (.l 1000) (xs := f.map intT) rfl (by intro h; have := congrArg List.length h; rw [List.length_map] at this; simp at this; subst this; simp at h1) rfl (by decide) rfl rfl ?_
  intro cap hcap
  rw [flat_one (by intro x hx; obtain ⟨a, _, rfl⟩ := List.mem_map.1 hx; rfl)]
  generalize List.replicate ((cap - (f.map intT).length) * 1) AV.unk = U
  rw [List.length_map] at hcap ⊢
  repeat' (first | refine Tr.seq ?_ | refine Tr.region ?_ | refine Sq.ev tab_ok rfl rfl ?_ | refine Sq.nil ?_ | (refine Sq.guard rfl rfl (fun _ => ?_) (fun _ => ?_) <;> refine Sq.ev tab_ok rfl rfl ?_) | (refine Tr.cond rfl (fun _ => ?_) (fun _ => ?_) <;> try (rename_i h; cases h; done)) | refine Tr.block ?_ | refine Tr.skip ?_ | refine Tr.ret ⟨_, rfl, ?_⟩)
  refine Tr.loopS (fun i : Nat => [(.s 1, .tr (.ls (f.map intT))), (.s 2, .tr (.ls (t.map intT))), (.s 3, u64 g), (.s 4, .ptr (.l 4) 0), (.l 4, .blk 29 [.tr (.ls (c.map svcT))]), (.s 9, .sl (.l 1000) f.length cap), (.l 1000, .blk 3 (((nowUp f t g i).map intT).map AV.tr ++ U)), (.s 10, bool (doneUp f t g i)), (.s 11, int i)]) (fun i => f.length - i) (fun i => i ≤ f.length)
    0 (by omega) (Sub.app (l := [_, _, _, _, _, _, _, _, _]) (H := []) ⟨rfl, rfl, rfl, rfl, rfl, rfl, by rw [nowUp_zero]; rfl, rfl, rfl, trivial⟩ (fun κ v h => nomatch h)) ?_
  rintro k hk
  have hlenN := nowUp_len f t g k
  have hds := done_succ f t g k
  repeat' (first | refine Tr.seq ?_ | refine Tr.region ?_ | refine Sq.ev tab_ok rfl rfl ?_ | refine Sq.nil ?_ | (refine Sq.guard rfl rfl (fun _ => ?_) (fun _ => ?_) <;> refine Sq.ev tab_ok rfl rfl ?_) | (refine Tr.cond rfl (fun _ => ?_) (fun _ => ?_) <;> try (rename_i h; cases h; done)) | refine Tr.block ?_ | refine Tr.skip ?_ | refine Tr.ret ⟨_, rfl, ?_⟩)
  refine Sq.lenS tab_ok rfl ?_
  repeat' (first | refine Tr.seq ?_ | refine Tr.region ?_ | refine Sq.ev tab_ok rfl rfl ?_ | refine Sq.nil ?_ | (refine Sq.guard rfl rfl (fun _ => ?_) (fun _ => ?_) <;> refine Sq.ev tab_ok rfl rfl ?_) | (refine Tr.cond rfl (fun _ => ?_) (fun _ => ?_) <;> try (rename_i h; cases h; done)) | refine Tr.block ?_ | refine Tr.skip ?_ | refine Tr.ret ⟨_, rfl, ?_⟩)
  · rename_i h2
    have hlt : k < f.length := by have := of_decide_eq_true h2; omega
    obtain ⟨w, hw⟩ : ∃ v, t[k]? = some v := ⟨_, List.getElem?_eq_getElem (by omega)⟩
    have hwe : (t.map intT)[((k : Nat) : Int).toNat]? = some (intT w) := by simp [hw]
    have hvw : vAt t k = w := vAt_of hw
    have hIn := In_ok g k (by omega)
    cases hb : g.getLsbD k
    · have hnu := nowUp_f (f := f) (t := t) hlt hb
      have hat := nowUp_at f t g k hlt
      rw [if_neg (by omega)] at hat
      have hnv : nowV f t g k = vAt f k := by unfold nowV; rw [hb]; rfl
      rw [hnv, hvw] at hds
      rw [hb] at hIn
      generalize vAt f k = x at *
      generalize nowUp f t g k = N at *
      have hxe : ((N.map intT).map AV.tr ++ U)[((k : Nat) : Int).toNat * 1]? = some (int x) := by
        rw [Int.toNat_natCast, Nat.mul_one, List.getElem?_append_left (by rw [List.length_map, List.length_map]; omega)]; simp [hat]
      refine Sq.callv rfl (hIn) ?_
      repeat' (first | refine Tr.seq ?_ | refine Tr.region ?_ | refine Sq.ev tab_ok rfl rfl ?_ | refine Sq.nil ?_ | (refine Sq.guard rfl rfl (fun _ => ?_) (fun _ => ?_) <;> refine Sq.ev tab_ok rfl rfl ?_) | (refine Tr.cond rfl (fun _ => ?_) (fun _ => ?_) <;> try (rename_i h; cases h; done)) | refine Tr.block ?_ | refine Tr.skip ?_ | refine Tr.ret ⟨_, rfl, ?_⟩)
      cases hd : doneUp f t g k
      · rw [hd] at hds
        refine Tr.drawn ( DSq.ev tab_ok rfl rfl <| DSq.ev tab_ok rfl rfl <| DSq.ev tab_ok rfl rfl <| DSq.ev tab_ok rfl rfl <| DSq.ev tab_ok rfl rfl <| DSq.ev tab_ok rfl rfl <| DSq.ev tab_ok rfl rfl <| DSq.ev tab_ok rfl rfl <| DSq.ev tab_ok rfl rfl <| DSq.ev tab_ok rfl rfl <| DSq.ev tab_ok rfl rfl <| DSq.ev tab_ok rfl rfl <| DSq.ev tab_ok rfl rfl <| DSq.nil _) mix_ok rfl ?_
        repeat' (first | refine Tr.seq ?_ | refine Tr.region ?_ | refine Sq.ev tab_ok rfl rfl ?_ | refine Sq.nil ?_ | (refine Sq.guard rfl rfl (fun _ => ?_) (fun _ => ?_) <;> refine Sq.ev tab_ok rfl rfl ?_) | (refine Tr.cond rfl (fun _ => ?_) (fun _ => ?_) <;> try (rename_i h; cases h; done)) | refine Tr.block ?_ | refine Tr.skip ?_ | refine Tr.ret ⟨_, rfl, ?_⟩)
        exact ⟨k + 1, by omega, by omega, Sub.app (l := [_, _, _, _, _, _, _, _, _]) (H := []) ⟨rfl, rfl, rfl, rfl, rfl, rfl, by rw [hnu]; rfl, by rw [hds]; rfl, congrArg some (wrapz (by omega) (by omega) (by omega)), trivial⟩ (fun κ v h => nomatch h)⟩
      · rw [hd] at hds
        refine Tr.drawn ( DSq.ev tab_ok rfl rfl <| DSq.ev tab_ok rfl rfl <| DSq.ev tab_ok rfl rfl <| DSq.ev tab_ok rfl rfl <| DSq.one rfl (fun q K hK => Sq.indexS (j := ((k : Nat) : Int)) (len := f.length) tab_ok rfl (by omega) (by omega) (Sq.nil hK)) <| DSq.one rfl (fun q K hK => Sq.loadS (v := int x) tab_ok rfl hxe (Sq.nil hK)) <| DSq.ev tab_ok rfl rfl <| DSq.ev tab_ok rfl rfl <| DSq.one rfl (fun q K hK => Sq.index (x := intT w) tab_ok rfl (by omega) (hwe) rfl (Sq.nil hK)) <| DSq.ev tab_ok rfl rfl <| DSq.ev tab_ok rfl rfl <| DSq.ev tab_ok rfl rfl <| DSq.ev tab_ok rfl rfl <| DSq.nil _) mix_ok rfl ?_
        repeat' (first | refine Tr.seq ?_ | refine Tr.region ?_ | refine Sq.ev tab_ok rfl rfl ?_ | refine Sq.nil ?_ | (refine Sq.guard rfl rfl (fun _ => ?_) (fun _ => ?_) <;> refine Sq.ev tab_ok rfl rfl ?_) | (refine Tr.cond rfl (fun _ => ?_) (fun _ => ?_) <;> try (rename_i h; cases h; done)) | refine Tr.block ?_ | refine Tr.skip ?_ | refine Tr.ret ⟨_, rfl, ?_⟩)
        exact ⟨k + 1, by omega, by omega, Sub.app (l := [_, _, _, _, _, _, _, _, _]) (H := []) ⟨rfl, rfl, rfl, rfl, rfl, rfl, by rw [hnu]; rfl, by rw [hds]; rfl, congrArg some (wrapz (by omega) (by omega) (by omega)), trivial⟩ (fun κ v h => nomatch h)⟩
    · have hnu := nowUp_t (f := f) (t := t) hlt hb
      have hnv : nowV f t g k = vAt t k := by unfold nowV; rw [hb]; rfl
      rw [hnv, hvw] at hds
      rw [hvw] at hnu
      rw [hb] at hIn
      generalize nowUp f t g k = N at *
      have hxe : (((N.set k w).map intT).map AV.tr ++ U)[((k : Nat) : Int).toNat * 1]? = some (int w) := by
        rw [Int.toNat_natCast, Nat.mul_one, List.getElem?_append_left (by rw [List.length_map, List.length_map, List.length_set]; omega), List.getElem?_map, List.getElem?_map, List.getElem?_set_self (by omega)]; rfl
      have hset : (((N.map intT).map AV.tr) ++ U).set (((k : Nat) : Int).toNat * 1) (AV.deg (int w)) = (((N.set k w).map intT).map AV.tr) ++ U := by
        show (((N.map intT).map AV.tr) ++ U).set (((k : Nat) : Int).toNat * 1) (int w) = _
        rw [Int.toNat_natCast, Nat.mul_one, List.set_append_left _ _ (by rw [List.length_map, List.length_map]; omega), List.map_set, List.map_set]
      refine Sq.callv rfl (hIn) ?_
      repeat' (first | refine Tr.seq ?_ | refine Tr.region ?_ | refine Sq.ev tab_ok rfl rfl ?_ | refine Sq.nil ?_ | (refine Sq.guard rfl rfl (fun _ => ?_) (fun _ => ?_) <;> refine Sq.ev tab_ok rfl rfl ?_) | (refine Tr.cond rfl (fun _ => ?_) (fun _ => ?_) <;> try (rename_i h; cases h; done)) | refine Tr.block ?_ | refine Tr.skip ?_ | refine Tr.ret ⟨_, rfl, ?_⟩)
      refine Sq.index (x := intT w) tab_ok rfl (by omega) (hwe) rfl ?_
      refine Sq.ev tab_ok rfl rfl ?_
      refine Sq.indexS (j := ((k : Nat) : Int)) (len := f.length) tab_ok rfl (by omega) (by omega) ?_
      refine Sq.storeS tab_ok rfl (by show ((k : Nat) : Int).toNat * 1 < _; rw [List.length_append, List.length_map, List.length_map]; omega) ?_
      rw [hset]
      refine Sq.nil ?_
      rw [hnu] at hxe
      rw [hnu]
      cases hd : doneUp f t g k
      · rw [hd] at hds
        refine Tr.drawn ( DSq.ev tab_ok rfl rfl <| DSq.ev tab_ok rfl rfl <| DSq.ev tab_ok rfl rfl <| DSq.ev tab_ok rfl rfl <| DSq.ev tab_ok rfl rfl <| DSq.ev tab_ok rfl rfl <| DSq.ev tab_ok rfl rfl <| DSq.ev tab_ok rfl rfl <| DSq.ev tab_ok rfl rfl <| DSq.ev tab_ok rfl rfl <| DSq.ev tab_ok rfl rfl <| DSq.ev tab_ok rfl rfl <| DSq.ev tab_ok rfl rfl <| DSq.nil _) mix_ok rfl ?_
        repeat' (first | refine Tr.seq ?_ | refine Tr.region ?_ | refine Sq.ev tab_ok rfl rfl ?_ | refine Sq.nil ?_ | (refine Sq.guard rfl rfl (fun _ => ?_) (fun _ => ?_) <;> refine Sq.ev tab_ok rfl rfl ?_) | (refine Tr.cond rfl (fun _ => ?_) (fun _ => ?_) <;> try (rename_i h; cases h; done)) | refine Tr.block ?_ | refine Tr.skip ?_ | refine Tr.ret ⟨_, rfl, ?_⟩)
        exact ⟨k + 1, by omega, by omega, Sub.app (l := [_, _, _, _, _, _, _, _, _]) (H := []) ⟨rfl, rfl, rfl, rfl, rfl, rfl, rfl, by rw [hds]; rfl, congrArg some (wrapz (by omega) (by omega) (by omega)), trivial⟩ (fun κ v h => nomatch h)⟩
      · rw [hd] at hds
        refine Tr.drawn ( DSq.ev tab_ok rfl rfl <| DSq.ev tab_ok rfl rfl <| DSq.ev tab_ok rfl rfl <| DSq.ev tab_ok rfl rfl <| DSq.one rfl (fun q K hK => Sq.indexS (j := ((k : Nat) : Int)) (len := f.length) tab_ok rfl (by omega) (by omega) (Sq.nil hK)) <| DSq.one rfl (fun q K hK => Sq.loadS (v := int w) tab_ok rfl hxe (Sq.nil hK)) <| DSq.ev tab_ok rfl rfl <| DSq.ev tab_ok rfl rfl <| DSq.one rfl (fun q K hK => Sq.index (x := intT w) tab_ok rfl (by omega) (hwe) rfl (Sq.nil hK)) <| DSq.ev tab_ok rfl rfl <| DSq.ev tab_ok rfl rfl <| DSq.ev tab_ok rfl rfl <| DSq.ev tab_ok rfl rfl <| DSq.nil _) mix_ok rfl ?_
        repeat' (first | refine Tr.seq ?_ | refine Tr.region ?_ | refine Sq.ev tab_ok rfl rfl ?_ | refine Sq.nil ?_ | (refine Sq.guard rfl rfl (fun _ => ?_) (fun _ => ?_) <;> refine Sq.ev tab_ok rfl rfl ?_) | (refine Tr.cond rfl (fun _ => ?_) (fun _ => ?_) <;> try (rename_i h; cases h; done)) | refine Tr.block ?_ | refine Tr.skip ?_ | refine Tr.ret ⟨_, rfl, ?_⟩)
        exact ⟨k + 1, by omega, by omega, Sub.app (l := [_, _, _, _, _, _, _, _, _]) (H := []) ⟨rfl, rfl, rfl, rfl, rfl, rfl, rfl, by rw [hds]; rfl, congrArg some (wrapz (by omega) (by omega) (by omega)), trivial⟩ (fun κ v h => nomatch h)⟩
  rename_i h2
  have : k = f.length := by have := of_decide_eq_false h2; omega
  subst this
  clear hds
  refine Tr.exit ?_
  have hat : ∀ i, i < f.length → (nowUp f t g f.length)[i]? = some (nowV f t g i) := fun i hi => by rw [nowUp_at f t g _ hi, if_pos hi]
  have hF : ∀ i j : Nat, Fn Tryz.prog Gw 54 [.tr (ctlT c), int i, int (nowV f t g i), int j, int (nowV f t g j)] [] (· = bool (fitsB c i (nowV f t g i) j (nowV f t g j))) := fun i j => refFits_ok hok _ _ _ _
  have hOk : okB c f t g = (List.range f.length).all fun i => (List.range i).all fun j => fitsB c i (nowV f t g i) j (nowV f t g j) := rfl
  generalize nowUp f t g f.length = N at *
  have hxe : ∀ i, i < f.length → ((N.map intT).map AV.tr ++ U)[((i : Nat) : Int).toNat * 1]? = some (int (nowV f t g i)) := fun i hi => by
    rw [Int.toNat_natCast, Nat.mul_one, List.getElem?_append_left (by rw [List.length_map, List.length_map]; omega)]; simp [hat i hi]
  generalize (N.map intT).map AV.tr ++ U = B at *
  generalize doneUp f t g f.length = dn at *
  repeat' (first | refine Tr.seq ?_ | refine Tr.region ?_ | refine Sq.ev tab_ok rfl rfl ?_ | refine Sq.nil ?_ | (refine Sq.guard rfl rfl (fun _ => ?_) (fun _ => ?_) <;> refine Sq.ev tab_ok rfl rfl ?_) | (refine Tr.cond rfl (fun _ => ?_) (fun _ => ?_) <;> try (rename_i h; cases h; done)) | refine Tr.block ?_ | refine Tr.skip ?_ | refine Tr.ret ⟨_, rfl, ?_⟩)
  refine Tr.loopS (fun i : Nat => [(.s 1, .tr (.ls (f.map intT))), (.s 2, .tr (.ls (t.map intT))), (.s 3, u64 g), (.s 4, .ptr (.l 4) 0), (.l 4, .blk 29 [.tr (.ls (c.map svcT))]), (.s 9, .sl (.l 1000) f.length cap), (.l 1000, .blk 3 B), (.s 10, bool dn), (.s 12, int i)]) (fun i => f.length - i) (fun i => i ≤ f.length ∧ ∀ k j, k < i → j < k → fitsB c k (nowV f t g k) j (nowV f t g j) = true)
    0 ⟨by omega, by intro k j hk; omega⟩ (Sub.app (l := [_, _, _, _, _, _, _, _, _]) (H := []) ⟨rfl, rfl, rfl, rfl, rfl, rfl, rfl, rfl, rfl, trivial⟩ (fun κ v h => nomatch h)) ?_
  rintro i ⟨hi, hall⟩
  repeat' (first | refine Tr.seq ?_ | refine Tr.region ?_ | refine Sq.ev tab_ok rfl rfl ?_ | refine Sq.nil ?_ | (refine Sq.guard rfl rfl (fun _ => ?_) (fun _ => ?_) <;> refine Sq.ev tab_ok rfl rfl ?_) | (refine Tr.cond rfl (fun _ => ?_) (fun _ => ?_) <;> try (rename_i h; cases h; done)) | refine Tr.block ?_ | refine Tr.skip ?_ | refine Tr.ret ⟨_, rfl, ?_⟩)
  refine Sq.lenS tab_ok rfl ?_
  repeat' (first | refine Tr.seq ?_ | refine Tr.region ?_ | refine Sq.ev tab_ok rfl rfl ?_ | refine Sq.nil ?_ | (refine Sq.guard rfl rfl (fun _ => ?_) (fun _ => ?_) <;> refine Sq.ev tab_ok rfl rfl ?_) | (refine Tr.cond rfl (fun _ => ?_) (fun _ => ?_) <;> try (rename_i h; cases h; done)) | refine Tr.block ?_ | refine Tr.skip ?_ | refine Tr.ret ⟨_, rfl, ?_⟩)
  · rename_i h3
    have hlt : i < f.length := by have := of_decide_eq_true h3; omega
    refine Tr.loopS (fun j : Nat => [(.s 1, .tr (.ls (f.map intT))), (.s 2, .tr (.ls (t.map intT))), (.s 3, u64 g), (.s 4, .ptr (.l 4) 0), (.l 4, .blk 29 [.tr (.ls (c.map svcT))]), (.s 9, .sl (.l 1000) f.length cap), (.l 1000, .blk 3 B), (.s 10, bool dn), (.s 12, int i), (.s 13, int j)]) (fun j => i - j) (fun j => j ≤ i ∧ ∀ k, k < j → fitsB c i (nowV f t g i) k (nowV f t g k) = true)
      0 ⟨by omega, by intro k hk; omega⟩ (Sub.app (l := [_, _, _, _, _, _, _, _, _, _]) (H := []) ⟨rfl, rfl, rfl, rfl, rfl, rfl, rfl, rfl, rfl, rfl, trivial⟩ (fun κ v h => nomatch h)) ?_
    rintro j ⟨hj, hrow⟩
    repeat' (first | refine Tr.seq ?_ | refine Tr.region ?_ | refine Sq.ev tab_ok rfl rfl ?_ | refine Sq.nil ?_ | (refine Sq.guard rfl rfl (fun _ => ?_) (fun _ => ?_) <;> refine Sq.ev tab_ok rfl rfl ?_) | (refine Tr.cond rfl (fun _ => ?_) (fun _ => ?_) <;> try (rename_i h; cases h; done)) | refine Tr.block ?_ | refine Tr.skip ?_ | refine Tr.ret ⟨_, rfl, ?_⟩)
    · rename_i h4
      have hj2 : j < i := by have := of_decide_eq_true h4; omega
      have hFi := hF i j
      have hxi := hxe i hlt
      have hxj := hxe j (by omega)
      cases hfb : fitsB c i (nowV f t g i) j (nowV f t g j)
      · rw [hfb] at hFi
        have hno : okB c f t g = false := by
          rw [hOk, ← Bool.not_eq_true, List.all_eq_true]
          intro hh
          have := List.all_eq_true.1 (hh i (List.mem_range.2 hlt)) j (List.mem_range.2 hj2)
          rw [hfb] at this; cases this
        rw [hno]
        generalize nowV f t g i = x at *
        generalize nowV f t g j = y at *
        refine Tr.drawn ( DSq.ev tab_ok rfl rfl <| DSq.ev tab_ok rfl rfl <| DSq.ev tab_ok rfl rfl <| DSq.ev tab_ok rfl rfl <| DSq.one rfl (fun q K hK => Sq.indexS (j := ((i : Nat) : Int)) (len := f.length) tab_ok rfl (by omega) (by omega) (Sq.nil hK)) <| DSq.one rfl (fun q K hK => Sq.loadS (v := int x) tab_ok rfl hxi (Sq.nil hK)) <| DSq.ev tab_ok rfl rfl <| DSq.ev tab_ok rfl rfl <| DSq.ev tab_ok rfl rfl <| DSq.one rfl (fun q K hK => Sq.indexS (j := ((j : Nat) : Int)) (len := f.length) tab_ok rfl (by omega) (by omega) (Sq.nil hK)) <| DSq.one rfl (fun q K hK => Sq.loadS (v := int y) tab_ok rfl hxj (Sq.nil hK)) <| DSq.call rfl (fun _ => rfl) (hFi) <| DSq.ev tab_ok rfl rfl <| DSq.nil _) mix_ok rfl ?_
        repeat' (first | refine Tr.seq ?_ | refine Tr.region ?_ | refine Sq.ev tab_ok rfl rfl ?_ | refine Sq.nil ?_ | (refine Sq.guard rfl rfl (fun _ => ?_) (fun _ => ?_) <;> refine Sq.ev tab_ok rfl rfl ?_) | (refine Tr.cond rfl (fun _ => ?_) (fun _ => ?_) <;> try (rename_i h; cases h; done)) | refine Tr.block ?_ | refine Tr.skip ?_ | refine Tr.ret ⟨_, rfl, ?_⟩)
        rfl
      · rw [hfb] at hFi
        have hnext : ∀ k, k < j + 1 → fitsB c i (nowV f t g i) k (nowV f t g k) = true := fun k hk => by
          rcases Nat.lt_succ_iff_lt_or_eq.1 hk with h5 | rfl
          · exact hrow k h5
          · exact hfb
        refine Tr.drawn ( DSq.ev tab_ok rfl rfl <| DSq.ev tab_ok rfl rfl <| DSq.ev tab_ok rfl rfl <| DSq.ev tab_ok rfl rfl <| DSq.one rfl (fun q K hK => Sq.indexS (j := ((i : Nat) : Int)) (len := f.length) tab_ok rfl (by omega) (by omega) (Sq.nil hK)) <| DSq.one rfl (fun q K hK => Sq.loadS (v := int (nowV f t g i)) tab_ok rfl hxi (Sq.nil hK)) <| DSq.ev tab_ok rfl rfl <| DSq.ev tab_ok rfl rfl <| DSq.ev tab_ok rfl rfl <| DSq.one rfl (fun q K hK => Sq.indexS (j := ((j : Nat) : Int)) (len := f.length) tab_ok rfl (by omega) (by omega) (Sq.nil hK)) <| DSq.one rfl (fun q K hK => Sq.loadS (v := int (nowV f t g j)) tab_ok rfl hxj (Sq.nil hK)) <| DSq.call rfl (fun _ => rfl) (hFi) <| DSq.ev tab_ok rfl rfl <| DSq.nil _) mix_ok rfl ?_
        repeat' (first | refine Tr.seq ?_ | refine Tr.region ?_ | refine Sq.ev tab_ok rfl rfl ?_ | refine Sq.nil ?_ | (refine Sq.guard rfl rfl (fun _ => ?_) (fun _ => ?_) <;> refine Sq.ev tab_ok rfl rfl ?_) | (refine Tr.cond rfl (fun _ => ?_) (fun _ => ?_) <;> try (rename_i h; cases h; done)) | refine Tr.block ?_ | refine Tr.skip ?_ | refine Tr.ret ⟨_, rfl, ?_⟩)
        exact ⟨j + 1, ⟨by omega, hnext⟩, by omega, Sub.app (l := [_, _, _, _, _, _, _, _, _, _]) (H := []) ⟨rfl, rfl, rfl, rfl, rfl, rfl, rfl, rfl, rfl, congrArg some (wrapz (by omega) (by omega) (by omega)), trivial⟩ (fun κ v h => nomatch h)⟩
    · rename_i h4
      have : j = i := by have := of_decide_eq_false h4; omega
      subst this
      refine Tr.exit ?_
      repeat' (first | refine Tr.seq ?_ | refine Tr.region ?_ | refine Sq.ev tab_ok rfl rfl ?_ | refine Sq.nil ?_ | (refine Sq.guard rfl rfl (fun _ => ?_) (fun _ => ?_) <;> refine Sq.ev tab_ok rfl rfl ?_) | (refine Tr.cond rfl (fun _ => ?_) (fun _ => ?_) <;> try (rename_i h; cases h; done)) | refine Tr.block ?_ | refine Tr.skip ?_ | refine Tr.ret ⟨_, rfl, ?_⟩)
      exact ⟨j + 1, ⟨by omega, fun k l hk hl => by
        rcases Nat.lt_succ_iff_lt_or_eq.1 hk with h5 | rfl
        · exact hall k l h5 hl
        · exact hrow l hl⟩, by omega, Sub.app (l := [_, _, _, _, _, _, _, _, _]) (H := []) ⟨rfl, rfl, rfl, rfl, rfl, rfl, rfl, rfl, congrArg some (wrapz (by omega) (by omega) (by omega)), trivial⟩ (fun κ v h => nomatch h)⟩
  rename_i h3
  have : i = f.length := by have := of_decide_eq_false h3; omega
  subst this
  have hyes : okB c f t g = true := by
    rw [hOk, List.all_eq_true]
    intro k hk
    rw [List.all_eq_true]
    intro l hl
    exact hall k l (List.mem_range.1 hk) (List.mem_range.1 hl)
  rw [hyes, Bool.true_and]
  clear hF hOk hall hyes
  refine Tr.exit ?_
  cases dn
  case true =>
    repeat' (first | refine Tr.seq ?_ | refine Tr.region ?_ | refine Sq.ev tab_ok rfl rfl ?_ | refine Sq.nil ?_ | (refine Sq.guard rfl rfl (fun _ => ?_) (fun _ => ?_) <;> refine Sq.ev tab_ok rfl rfl ?_) | (refine Tr.cond rfl (fun _ => ?_) (fun _ => ?_) <;> try (rename_i h; cases h; done)) | refine Tr.block ?_ | refine Tr.skip ?_ | refine Tr.ret ⟨_, rfl, ?_⟩)
    rfl
  rw [Bool.false_or]
  repeat' (first | refine Tr.seq ?_ | refine Tr.region ?_ | refine Sq.ev tab_ok rfl rfl ?_ | refine Sq.nil ?_ | (refine Sq.guard rfl rfl (fun _ => ?_) (fun _ => ?_) <;> refine Sq.ev tab_ok rfl rfl ?_) | (refine Tr.cond rfl (fun _ => ?_) (fun _ => ?_) <;> try (rename_i h; cases h; done)) | refine Tr.block ?_ | refine Tr.skip ?_ | refine Tr.ret ⟨_, rfl, ?_⟩)
  refine Tr.loopS (fun i : Nat => [(.s 1, .tr (.ls (f.map intT))), (.s 2, .tr (.ls (t.map intT))), (.s 3, u64 g), (.s 4, .ptr (.l 4) 0), (.l 4, .blk 29 [.tr (.ls (c.map svcT))]), (.s 9, .sl (.l 1000) f.length cap), (.l 1000, .blk 3 B), (.s 14, int i)]) (fun i => f.length - i) (fun i => i ≤ f.length ∧ ((List.range i).any fun i => (nowV f t g i != vAt t i) && R i) = false)
    0 ⟨by omega, rfl⟩ (Sub.app (l := [_, _, _, _, _, _, _, _]) (H := []) ⟨rfl, rfl, rfl, rfl, rfl, rfl, rfl, rfl, trivial⟩ (fun κ v h => nomatch h)) ?_
  rintro i ⟨hi, hnot⟩
  repeat' (first | refine Tr.seq ?_ | refine Tr.region ?_ | refine Sq.ev tab_ok rfl rfl ?_ | refine Sq.nil ?_ | (refine Sq.guard rfl rfl (fun _ => ?_) (fun _ => ?_) <;> refine Sq.ev tab_ok rfl rfl ?_) | (refine Tr.cond rfl (fun _ => ?_) (fun _ => ?_) <;> try (rename_i h; cases h; done)) | refine Tr.block ?_ | refine Tr.skip ?_ | refine Tr.ret ⟨_, rfl, ?_⟩)
  refine Sq.lenS tab_ok rfl ?_
  repeat' (first | refine Tr.seq ?_ | refine Tr.region ?_ | refine Sq.ev tab_ok rfl rfl ?_ | refine Sq.nil ?_ | (refine Sq.guard rfl rfl (fun _ => ?_) (fun _ => ?_) <;> refine Sq.ev tab_ok rfl rfl ?_) | (refine Tr.cond rfl (fun _ => ?_) (fun _ => ?_) <;> try (rename_i h; cases h; done)) | refine Tr.block ?_ | refine Tr.skip ?_ | refine Tr.ret ⟨_, rfl, ?_⟩)
  · rename_i h4
    have hlt : i < f.length := by have := of_decide_eq_true h4; omega
    obtain ⟨w, hw⟩ : ∃ v, t[i]? = some v := ⟨_, List.getElem?_eq_getElem (by omega)⟩
    have hwe : (t.map intT)[((i : Nat) : Int).toNat]? = some (intT w) := by simp [hw]
    have hvw : vAt t i = w := vAt_of hw
    have hxi := hxe i hlt
    have hRi := hR i hlt
    have hsucc : ((List.range (i + 1)).any fun i => (nowV f t g i != vAt t i) && R i) = ((nowV f t g i != w) && R i) := by
      rw [List.range_succ, List.any_append, hnot]; simp [hvw]
    have hyes : ((nowV f t g i != w) && R i) = true → ((List.range f.length).any fun i => (nowV f t g i != vAt t i) && R i) = true := fun h => List.any_eq_true.2 ⟨i, List.mem_range.2 hlt, by rw [hvw]; exact h⟩
    rw [hvw] at hRi
    generalize nowV f t g i = x at *
    cases hne : (x != w)
    · rw [hne] at hsucc
      refine Tr.drawn ( DSq.ev tab_ok rfl rfl <| DSq.ev tab_ok rfl rfl <| DSq.one rfl (fun q K hK => Sq.indexS (j := ((i : Nat) : Int)) (len := f.length) tab_ok rfl (by omega) (by omega) (Sq.nil hK)) <| DSq.one rfl (fun q K hK => Sq.loadS (v := int x) tab_ok rfl hxi (Sq.nil hK)) <| DSq.ev tab_ok rfl rfl <| DSq.ev tab_ok rfl rfl <| DSq.one rfl (fun q K hK => Sq.index (x := intT w) tab_ok rfl (by omega) (hwe) rfl (Sq.nil hK)) <| DSq.ev tab_ok rfl rfl <| DSq.evr tab_ok rfl (congrArg bool hne) <| DSq.ev tab_ok rfl rfl <| DSq.ev tab_ok rfl rfl <| DSq.ev tab_ok rfl rfl <| DSq.ev tab_ok rfl rfl <| DSq.ev tab_ok rfl rfl <| DSq.ev tab_ok rfl rfl <| DSq.ev tab_ok rfl rfl <| DSq.ev tab_ok rfl rfl <| DSq.ev tab_ok rfl rfl <| DSq.ev tab_ok rfl rfl <| DSq.nil _) mix_ok rfl ?_
      repeat' (first | refine Tr.seq ?_ | refine Tr.region ?_ | refine Sq.ev tab_ok rfl rfl ?_ | refine Sq.nil ?_ | (refine Sq.guard rfl rfl (fun _ => ?_) (fun _ => ?_) <;> refine Sq.ev tab_ok rfl rfl ?_) | (refine Tr.cond rfl (fun _ => ?_) (fun _ => ?_) <;> try (rename_i h; cases h; done)) | refine Tr.block ?_ | refine Tr.skip ?_ | refine Tr.ret ⟨_, rfl, ?_⟩)
      exact ⟨i + 1, ⟨by omega, hsucc⟩, by omega, Sub.app (l := [_, _, _, _, _, _, _, _]) (H := []) ⟨rfl, rfl, rfl, rfl, rfl, rfl, rfl, congrArg some (wrapz (by omega) (by omega) (by omega)), trivial⟩ (fun κ v h => nomatch h)⟩
    · have hRi := hRi (by rw [bne_iff_ne] at hne; exact hne)
      rw [hne] at hsucc hyes
      generalize R i = b at *
      refine Tr.drawn ( DSq.ev tab_ok rfl rfl <| DSq.ev tab_ok rfl rfl <| DSq.one rfl (fun q K hK => Sq.indexS (j := ((i : Nat) : Int)) (len := f.length) tab_ok rfl (by omega) (by omega) (Sq.nil hK)) <| DSq.one rfl (fun q K hK => Sq.loadS (v := int x) tab_ok rfl hxi (Sq.nil hK)) <| DSq.ev tab_ok rfl rfl <| DSq.ev tab_ok rfl rfl <| DSq.one rfl (fun q K hK => Sq.index (x := intT w) tab_ok rfl (by omega) (hwe) rfl (Sq.nil hK)) <| DSq.ev tab_ok rfl rfl <| DSq.evr tab_ok rfl (congrArg bool hne) <| DSq.ev tab_ok rfl rfl <| DSq.ev tab_ok rfl rfl <| DSq.ev tab_ok rfl rfl <| DSq.ev tab_ok rfl rfl <| DSq.ev tab_ok rfl rfl <| DSq.ev tab_ok rfl rfl <| DSq.one rfl (fun q K hK => Sq.shift rfl 1#64 i rfl rfl (by omega) (Sq.nil hK)) <| DSq.one rfl (fun q K hK => Sq.bits rfl g (1#64 <<< i) (r := g ||| (1#64 <<< i)) rfl rfl rfl (Sq.nil hK)) <| DSq.call rfl (fun _ => rfl) (hRi) <| DSq.ev tab_ok rfl rfl <| DSq.nil _) mix_ok rfl ?_
      cases b
      · repeat' (first | refine Tr.seq ?_ | refine Tr.region ?_ | refine Sq.ev tab_ok rfl rfl ?_ | refine Sq.nil ?_ | (refine Sq.guard rfl rfl (fun _ => ?_) (fun _ => ?_) <;> refine Sq.ev tab_ok rfl rfl ?_) | (refine Tr.cond rfl (fun _ => ?_) (fun _ => ?_) <;> try (rename_i h; cases h; done)) | refine Tr.block ?_ | refine Tr.skip ?_ | refine Tr.ret ⟨_, rfl, ?_⟩)
        exact ⟨i + 1, ⟨by omega, hsucc⟩, by omega, Sub.app (l := [_, _, _, _, _, _, _, _]) (H := []) ⟨rfl, rfl, rfl, rfl, rfl, rfl, rfl, congrArg some (wrapz (by omega) (by omega) (by omega)), trivial⟩ (fun κ v h => nomatch h)⟩
      · rw [hyes rfl]
        repeat' (first | refine Tr.seq ?_ | refine Tr.region ?_ | refine Sq.ev tab_ok rfl rfl ?_ | refine Sq.nil ?_ | (refine Sq.guard rfl rfl (fun _ => ?_) (fun _ => ?_) <;> refine Sq.ev tab_ok rfl rfl ?_) | (refine Tr.cond rfl (fun _ => ?_) (fun _ => ?_) <;> try (rename_i h; cases h; done)) | refine Tr.block ?_ | refine Tr.skip ?_ | refine Tr.ret ⟨_, rfl, ?_⟩)
        rfl
  · rename_i h4
    have : i = f.length := by have := of_decide_eq_false h4; omega
    subst this
    rw [hnot]
    refine Tr.exit ?_
    repeat' (first | refine Tr.seq ?_ | refine Tr.region ?_ | refine Sq.ev tab_ok rfl rfl ?_ | refine Sq.nil ?_ | (refine Sq.guard rfl rfl (fun _ => ?_) (fun _ => ?_) <;> refine Sq.ev tab_ok rfl rfl ?_) | (refine Tr.cond rfl (fun _ => ?_) (fun _ => ?_) <;> try (rename_i h; cases h; done)) | refine Tr.block ?_ | refine Tr.skip ?_ | refine Tr.ret ⟨_, rfl, ?_⟩)
    rfl
theorem Ordered_ok {c : Ctl} (hok : Ctl.ok c) {f t : List Int} (h1 : 1 ≤ f.length) (h64 : f.length ≤ 63) (htl : t.length = f.length) : ∀ (n : Nat) (g : BitVec 64), remN f t g ≤ n →
    Fn Tryz.prog Gw 18 [.tr (ctlT c), .tr (.ls (f.map intT)), .tr (.ls (t.map intT)), u64 g] [] (· = bool (ordB c f t n g)) := by
  intro n
  induction n with
  | zero =>
    intro g hr
    have hd := done_rem f t g (by omega)
    have h := Ordered_step hok h1 h64 htl g (fun _ => false) (fun i hi hne => by
      exfalso
      have := rem_lt f t g (by omega) hi hne
      omega)
    have e : ordB c f t 0 g = (okB c f t g && (doneUp f t g f.length || (List.range f.length).any fun i => (nowV f t g i != vAt t i) && (fun _ => false) i)) := by
      unfold ordB; rw [hd]; simp
    rw [e]; exact h
  | succ n ih =>
    intro g hr
    have h := Ordered_step hok h1 h64 htl g (fun i => ordB c f t n (g ||| 1#64 <<< i)) (fun i hi hne => ih _ (by have := rem_lt f t g (by omega) hi hne; omega))
    have e : ordB c f t (n + 1) g = (okB c f t g && (doneUp f t g f.length || (List.range f.length).any fun i => (nowV f t g i != vAt t i) && ordB c f t n (g ||| 1#64 <<< i))) := rfl
    rw [e]; exact h
end Go.Lg.Tryz

set_option linter.unusedVariables false
set_option linter.unusedSimpArgs false
namespace Go.Lg.Tryz
open Go Go.Proofs Go.RowKit Go.Lib Go.Lg.Sem
set_option maxRecDepth 8192 in
theorem PlanStuck_ok (c : Ctl) (f t : List Int) : Fn Tryz.prog Gw 4 [.tr (ctlT c), .tr (.ls (f.map intT)), .tr (.ls (t.map intT))] [] (· = bool true) := by
  obtain ⟨cyc, hc⟩ := cyc_ex c
  have hA := planAnchor_ok
  have hM := catRight_ok c hc
  refine Fn.of tab_ok Tryz.func4 rfl (by decide) (by simp [Tryz.f4]) rfl (fun κ v h => by cases h) Gw.below ?_
  repeat' (first | refine Tr.seq ?_ | refine Tr.region ?_ | refine Sq.ev tab_ok rfl rfl ?_ | refine Sq.nil ?_ | (refine Sq.guard rfl rfl (fun _ => ?_) (fun _ => ?_) <;> refine Sq.ev tab_ok rfl rfl ?_) | (refine Tr.cond rfl (fun _ => ?_) (fun _ => ?_) <;> try (rename_i h; cases h; done)) | refine Tr.block ?_ | refine Tr.skip ?_ | refine Tr.ret ⟨_, rfl, ?_⟩)
  refine Sq.callv rfl (hA) ?_
  repeat' (first | refine Tr.seq ?_ | refine Tr.region ?_ | refine Sq.ev tab_ok rfl rfl ?_ | refine Sq.nil ?_ | (refine Sq.guard rfl rfl (fun _ => ?_) (fun _ => ?_) <;> refine Sq.ev tab_ok rfl rfl ?_) | (refine Tr.cond rfl (fun _ => ?_) (fun _ => ?_) <;> try (rename_i h; cases h; done)) | refine Tr.block ?_ | refine Tr.skip ?_ | refine Tr.ret ⟨_, rfl, ?_⟩)
  refine Sq.call rfl hM ?_
  rintro _ ⟨q, rfl, hq⟩
  cases hs : smallC c && ((checkV c cyc).2.2 == 0)
  · repeat' (first | refine Tr.seq ?_ | refine Tr.region ?_ | refine Sq.ev tab_ok rfl rfl ?_ | refine Sq.nil ?_ | (refine Sq.guard rfl rfl (fun _ => ?_) (fun _ => ?_) <;> refine Sq.ev tab_ok rfl rfl ?_) | (refine Tr.cond rfl (fun _ => ?_) (fun _ => ?_) <;> try (rename_i h; cases h; done)) | refine Tr.block ?_ | refine Tr.skip ?_ | refine Tr.ret ⟨_, rfl, ?_⟩)
    rfl
  have e := hq hs
  subst e
  rw [Bool.and_eq_true, beq_iff_eq] at hs
  obtain ⟨hs, hv⟩ := hs
  obtain ⟨hc1, hc2, hcy, _⟩ := right_of hv
  have hlv := levels_of hv
  have hok := ctl_ok hs
  obtain ⟨cy, hcy⟩ := cycP_ex (stepsV q f t).length (befV q f t)
  have hE := refEnds_ok hok (by omega) hlv f t
  repeat' (first | refine Tr.seq ?_ | refine Tr.region ?_ | refine Sq.ev tab_ok rfl rfl ?_ | refine Sq.nil ?_ | (refine Sq.guard rfl rfl (fun _ => ?_) (fun _ => ?_) <;> refine Sq.ev tab_ok rfl rfl ?_) | (refine Tr.cond rfl (fun _ => ?_) (fun _ => ?_) <;> try (rename_i h; cases h; done)) | refine Tr.block ?_ | refine Tr.skip ?_ | refine Tr.ret ⟨_, rfl, ?_⟩)
  · rfl
  · rfl
  rename_i g1 g2
  have g1 : decide (((f.map intT).length : Int) > 30) = false := g1
  rw [List.length_map] at g1
  have g1 := of_decide_eq_false g1
  have g2 : decide (((t.map intT).length : Int) > 30) = false := g2
  rw [List.length_map] at g2
  have g2 := of_decide_eq_false g2
  have h1 := Make_ok hok hc2 hlv f t cy hcy (by omega) (by omega)
  by_cases he : endsV q f t ≠ 0
  · generalize endsV q f t = z at *
    refine Sq.callv rfl (hE) ?_
    repeat' (first | refine Tr.seq ?_ | refine Tr.region ?_ | refine Sq.ev tab_ok rfl rfl ?_ | refine Sq.nil ?_ | (refine Sq.guard rfl rfl (fun _ => ?_) (fun _ => ?_) <;> refine Sq.ev tab_ok rfl rfl ?_) | (refine Tr.cond rfl (fun _ => ?_) (fun _ => ?_) <;> try (rename_i h; cases h; done)) | refine Tr.block ?_ | refine Tr.skip ?_ | refine Tr.ret ⟨_, rfl, ?_⟩)
    · rfl
    all_goals
      rename_i h _
      have h : (z != 0) = false := h
      simp at h; exact absurd h he
  have he : endsV q f t = 0 := Classical.not_not.1 he
  rw [he] at hE
  have E := ends0 he
  have hfl := (rightV_at E.rf).1
  have htl : t.length = f.length := (rightV_at E.rt).1.trans (rightV_at E.rf).1.symm
  have hO := Ordered_ok hok (f := f) (t := t) (by omega) (by omega) htl (remN f t 0#64) 0#64 (Nat.le_refl _)
  have hz : makeZ q f t cy = if cy then 44 else 0 := by unfold makeZ; rw [if_pos he]
  rw [hz] at h1
  generalize makeP q f t cy = p at *
  refine Sq.callv rfl (hE) ?_
  repeat' (first | refine Tr.seq ?_ | refine Tr.region ?_ | refine Sq.ev tab_ok rfl rfl ?_ | refine Sq.nil ?_ | (refine Sq.guard rfl rfl (fun _ => ?_) (fun _ => ?_) <;> refine Sq.ev tab_ok rfl rfl ?_) | (refine Tr.cond rfl (fun _ => ?_) (fun _ => ?_) <;> try (rename_i h; cases h; done)) | refine Tr.block ?_ | refine Tr.skip ?_ | refine Tr.ret ⟨_, rfl, ?_⟩)
  · rfl
  cases hcyc : cy
  · subst hcyc
    have hn : ¬ CycP (stepsV q f t).length (befV q f t) := fun h => by have := hcy.2 h; cases this
    rw [acyc_ord E hlv (by omega) hn _ _ (Nat.le_refl _) (by intro a b _ h; simp at h)] at hO
    refine Sq.callv rfl (h1) ?_
    repeat' (first | refine Tr.seq ?_ | refine Tr.region ?_ | refine Sq.ev tab_ok rfl rfl ?_ | refine Sq.nil ?_ | (refine Sq.guard rfl rfl (fun _ => ?_) (fun _ => ?_) <;> refine Sq.ev tab_ok rfl rfl ?_) | (refine Tr.cond rfl (fun _ => ?_) (fun _ => ?_) <;> try (rename_i h; cases h; done)) | refine Tr.block ?_ | refine Tr.skip ?_ | refine Tr.ret ⟨_, rfl, ?_⟩)
    refine Sq.callv rfl (hO) ?_
    repeat' (first | refine Tr.seq ?_ | refine Tr.region ?_ | refine Sq.ev tab_ok rfl rfl ?_ | refine Sq.nil ?_ | (refine Sq.guard rfl rfl (fun _ => ?_) (fun _ => ?_) <;> refine Sq.ev tab_ok rfl rfl ?_) | (refine Tr.cond rfl (fun _ => ?_) (fun _ => ?_) <;> try (rename_i h; cases h; done)) | refine Tr.block ?_ | refine Tr.skip ?_ | refine Tr.ret ⟨_, rfl, ?_⟩)
    rfl
  · subst hcyc
    have hn : ordB q f t (remN f t 0#64) 0#64 = false := by
      rw [← Bool.not_eq_true]
      intro h
      exact ord_acyc (by omega) _ h (hcy.1 rfl)
    rw [hn] at hO
    refine Sq.callv rfl (h1) ?_
    repeat' (first | refine Tr.seq ?_ | refine Tr.region ?_ | refine Sq.ev tab_ok rfl rfl ?_ | refine Sq.nil ?_ | (refine Sq.guard rfl rfl (fun _ => ?_) (fun _ => ?_) <;> refine Sq.ev tab_ok rfl rfl ?_) | (refine Tr.cond rfl (fun _ => ?_) (fun _ => ?_) <;> try (rename_i h; cases h; done)) | refine Tr.block ?_ | refine Tr.skip ?_ | refine Tr.ret ⟨_, rfl, ?_⟩)
    refine Sq.callv rfl (hO) ?_
    repeat' (first | refine Tr.seq ?_ | refine Tr.region ?_ | refine Sq.ev tab_ok rfl rfl ?_ | refine Sq.nil ?_ | (refine Sq.guard rfl rfl (fun _ => ?_) (fun _ => ?_) <;> refine Sq.ev tab_ok rfl rfl ?_) | (refine Tr.cond rfl (fun _ => ?_) (fun _ => ?_) <;> try (rename_i h; cases h; done)) | refine Tr.block ?_ | refine Tr.skip ?_ | refine Tr.ret ⟨_, rfl, ?_⟩)
    rfl
end Go.Lg.Tryz

set_option linter.unusedSimpArgs false
set_option linter.unusedVariables false
namespace Go.Lg.Tryz
open Go Go.Proofs Go.Proofs.YtikjlooifdgbaaaGreatDoor Go.ChangeShapes Go.WideShapes Go.ChangeAt Go.RowKit Go.Joins Go.Lg.Sem
def theLaid : List (String × DataW Unit) := Rows.planMakesRow.laid
theorem own : ownKnob Tryz.prog.godebug = none := by kernel_rfl
theorem laidOut : laidOutB Tryz.prog = true := by kernel_rfl
def firstCells : Array Value := match Go.Pinned.utf8First with
  | .agg l => (l.map fun | .lit (.int k n) => Value.int k n | _ => undef).toArray
  | _ => #[]
noncomputable def laidWorld (os : Os) : World :=
  let w0 := World.doorLaid Tryz.prog 72 os
  { w0 with heap := w0.heap.modify 2 fun
      | .cells _ t frozen => .cells firstCells t frozen
      | o => o }
set_option maxRecDepth 100000 in
theorem laidWorld_met (os : Os) (args : Array Value) : laidMetH Tryz.prog theLaid ((laidWorld os).forCall (fun _ _ => 0) ⟨#[], args, []⟩).memory :=
  laidMetH_of_parts3 (fuel := 8) (laidMet_of_run' 8 (by kernel_rfl) (by kernel_rfl)) (by kernel_rfl) (by kernel_rfl)
set_option maxRecDepth 100000 in
theorem laidWorld_shaped (os : Os) (args : Array Value) : ((laidWorld os).forCall (fun _ _ => 0) ⟨#[], args, []⟩).Shaped Tryz.prog :=
  World.shaped_of_RefB (by kernel_rfl) (by kernel_rfl)
theorem gw_of {W : World} (hs : W.ShapedOpen Tryz.prog) (h : laidMetH Tryz.prog theLaid W) : Gw W := by
  rw [MakeChecks.laidMetH_plain _ _ _ (by kernel_rfl)] at h
  have h2 : laidMet Tryz.prog (("internal/strconv.uint64pow10", Lib.tabData .u64 Lib.pow10Tab) :: theLaid.drop 3) W := h.tail.tail
  have ht := Lib.tabIs_of_head tab_at (t := 278) (e := 48) (n := 20) (by kernel_rfl) Tryz.underlying278 Tryz.underlying48 (by kernel_rfl) (by kernel_rfl) h2
  obtain ⟨m, hm⟩ := cell_of_shapedOpen_int (g := 4) (zero := #[.int .i64 0]) (t := 3) hs (of_decide_eq_true (by kernel_rfl)) (by kernel_rfl) rfl (by kernel_rfl) (by kernel_rfl) Tryz.underlying3
  have hbig : 8 ≤ W.heap.size := by
    have := ht
    unfold Lib.TabIs World.var? at this
    rw [tab_at, Option.bind_some] at this
    cases hb : W.heap[7]? with
    | none => rw [hb] at this; cases this
    | some o => have := (Array.getElem?_eq_some_iff.1 hb).1; omega
  have h3 : laidMet Tryz.prog (("math/bits.deBruijn64tab", Lib.tabData .u8 (Lib.deBruijn64tab.map Int.ofNat)) :: theLaid.drop 2) W := h.tail
  have hd := Lib.tabIs_of_head (g := 0) (t := 186) (e := 5) (n := 64) (by kernel_rfl) (by kernel_rfl) Tryz.underlying186 Tryz.underlying5 (by kernel_rfl) (by kernel_rfl) h3
  exact ⟨⟨m, hm⟩, ht, hbig, fun j hj => by
    have h4 := hd.cell (g := 0) (by kernel_rfl) j (by rw [List.length_map]; exact hj)
    rw [h4]
    congr 2
    simp only [List.getD_eq_getElem?_getD, List.getElem?_map, List.getElem?_eq_getElem hj, Option.map_some, Option.getD_some]; rfl⟩
theorem returns_both {H : Type} {enc : TypeId × Value → H} {a : Assume} {C : Checked} {os : Os} {f : FuncId} {fn : Func} {s : ChangeSpec} {conds : List PathCond} {apart fresh handsOn again : Bool} {X : World → Array Value → Prop}
    (hX : ∀ (w w' : World) (args : Array Value), w.heap = w'.heap → X w args → X w' args)
    (own : ownKnob C.prog.godebug = none) (started : os.Started) (noInit : C.prog.inits.idxOf? f = none) (hfn : C.prog.funcs[f]? = some fn)
    (witness : ∃ (w : World) (tape : Tape) (i : Input), w.os = os ∧ (w.forCall tape i).Shaped C.prog ∧ i.vars = [] ∧ Input.okWide C.prog (w.forCall tape i) .any w.heap.size f i ∧
      ((s.pre enc C.prog fn conds apart (w.forCall tape i).memory i.args ∧ X (w.forCall tape i).memory i.args) ∧ sizedMet enc C.prog fn (OpenSpec.ofChange s) apart (w.forCall tape i).memory i.args) ∧ a.holds C.prog (lone (Frame.enter C.prog f i.args .normal) [] (w.forCall tape i)))
    (contract : ∀ (W : World) (base : Nat) (args : Array Value) (ds gs : List (DataW H)) (before : List MemPlace),
      (∀ (j : Nat) t v, fn.params[j]? = some t → args[j]? = some v → Value.okWide C.prog W .any base t v) →
      DataW.Whole enc C.prog fn.params.toList s.vars apart W args.toList ds gs before →
      (DataW.weightsEach C.prog (fn.params.toList ++ s.plain.varTypes C.prog) (ds ++ gs)).all (· ≤ reachBytes) = true → X W args → W.ShapedOpen C.prog →
      Calls C.prog f args W fun e W' => ∃ v, e = .returned v ∧ s.post enc C.prog fn apart fresh handsOn again W args v W') :
    ReturnsInHanded a C os f .any (fun w args => (s.pre enc C.prog fn conds apart w args ∧ X w args) ∧ sizedMet enc C.prog fn (OpenSpec.ofChange s) apart w args) (s.post enc C.prog fn apart fresh handsOn again) := by
  refine returnsInHanded_of_calls own started noInit witness ?_
  intro w tape i _ hsh _ hok hpre hholds
  obtain ⟨_, _, _, fn', hfn', _, _, _, _, hval⟩ := hok
  obtain rfl := Option.some.inj (hfn'.symm.trans hfn)
  obtain ⟨⟨⟨ds, gs, before, hw, hc⟩, hx⟩, hz⟩ := hpre
  have hw' := DataW.Whole.of_heap (w' := w.forCall tape i) (by rfl) hw
  refine (contract (w.forCall tape i) w.heap.size i.args ds gs before hval hw' (hz.weights hw) (hX _ _ _ (by rfl) hx) hsh).mono fun e W' ⟨v, he, hp⟩ => ?_
  subst he
  exact ChangeSpec.post_blind hp
section
variable {H : Type} {enc : TypeId × Value → H} {W : World}
theorem stays {t : TypeId} (hr : (Tryz.prog).readableRec t = true) (hrow : t < (Tryz.prog).types.size) {W' : World} {v : Value} {d : DataW H} {p : List MemPlace} (h : DataW.Trod enc Tryz.prog W 0 (fun _ => true) true t v d p) (hb : Below W.heap.size W W') (hlt : ∀ x ∈ p, x.block < W.heap.size) :
    DataW.Trod enc Tryz.prog W' 0 (fun b => decide (b < W.heap.size)) true t v d p := hb.trod laidOut hr hrow h hlt
theorem opens_ver : Opens enc Tryz.prog W 58 (fun v : Ver => [.sc (.int .i64 v.a), .sc (.int .i64 v.b), .sc (.int .i64 v.c), .sc (.string v.p)]) :=
  (opens_struct Tryz.underlying58 (by kernel_rfl) (OpensF.cons rfl (k := 1) (by kernel_rfl) (opens_int Tryz.underlying3) (OpensF.cons rfl (k := 1) (by kernel_rfl) (opens_int Tryz.underlying3) (OpensF.cons rfl (k := 1) (by kernel_rfl) (opens_int Tryz.underlying3)
    (OpensF.cons rfl (k := 1) (by kernel_rfl) (opens_string Tryz.underlying9) OpensF.nil))))).map (fun p : Int × Int × Int × ByteArray × Unit => ⟨p.1, p.2.1, p.2.2.1, p.2.2.2.1⟩) (fun p => rfl)
theorem opens_comp : Opens enc Tryz.prog W 99 (fun c : Cmp => [.sc (.int .i64 c.op), .sc (.int .i64 c.v.a), .sc (.int .i64 c.v.b), .sc (.int .i64 c.v.c), .sc (.string c.v.p)]) :=
  (opens_struct Tryz.underlying99 (by kernel_rfl) (OpensF.cons rfl (k := 1) (by kernel_rfl) (opens_int Tryz.underlying3) (OpensF.cons rfl (k := 4) (by kernel_rfl) opens_ver OpensF.nil))).map (fun p : Int × Ver × Unit => ⟨p.1, p.2.1⟩) (fun p => rfl)
noncomputable instance : Inhabited Cmp := ⟨Cmp.zero⟩
theorem opens_comps : Opens enc Tryz.prog W 100 (fun l : List Cmp => [cmpsT l]) :=
  opens_slice Cmp.t (fun c => rfl) Tryz.underlying100 (fun c => by rw [show (Tryz.prog).cellsOf 99 = 5 by kernel_rfl]; rfl) (by rw [show (Tryz.prog).cellsOf 99 = 5 by kernel_rfl]; omega) opens_comp
theorem opens_rng : Opens enc Tryz.prog W 103 (fun r : Rng => [.ls (r.map cmpsT)]) :=
  (opens_struct Tryz.underlying103 (by kernel_rfl) (OpensF.cons rfl (k := 1) (by kernel_rfl) (opens_slice cmpsT (fun l => rfl) Tryz.underlying101 (fun c => by rw [show (Tryz.prog).cellsOf 100 = 1 by kernel_rfl]; rfl) (by rw [show (Tryz.prog).cellsOf 100 = 1 by kernel_rfl]; omega) opens_comps) OpensF.nil)).map
    (fun p : Rng × Unit => p.1) (fun p => rfl)
end
end Go.Lg.Tryz

set_option linter.unusedSimpArgs false
set_option linter.unusedVariables false
namespace Go.Lg.Tryz
open Go Go.Proofs Go.Proofs.YtikjlooifdgbaaaGreatDoor Go.ChangeShapes Go.WideShapes Go.ChangeAt Go.RowKit Go.Joins Go.Lg.Sem
section
variable {H : Type} {enc : TypeId × Value → H} {W : World}
noncomputable instance : Inhabited Nd := ⟨⟨0, []⟩⟩
noncomputable instance : Inhabited Rls := ⟨⟨Cmp.zero.v, 0, []⟩⟩
noncomputable instance : Inhabited Svc := ⟨⟨ByteArray.empty, []⟩⟩
theorem opens_nd : Opens enc Tryz.prog W 105 (fun n : Nd => [.sc (.int .i64 n.s), .ls (n.r.map cmpsT)]) :=
  (opens_struct Tryz.underlying105 (by kernel_rfl) (OpensF.cons rfl (k := 1) (by kernel_rfl) (opens_int Tryz.underlying3) (OpensF.cons rfl (k := 1) (by kernel_rfl) opens_rng OpensF.nil))).map (fun p : Int × Rng × Unit => ⟨p.1, p.2.1⟩) (fun p => rfl)
theorem opens_nds : Opens enc Tryz.prog W 59 (fun l : List Nd => [.ls (l.map ndT)]) :=
  opens_slice ndT (fun c => rfl) Tryz.underlying59 (fun c => by rw [show (Tryz.prog).cellsOf 105 = 2 by kernel_rfl]; rfl) (by rw [show (Tryz.prog).cellsOf 105 = 2 by kernel_rfl]; omega) opens_nd
theorem opens_rls : Opens enc Tryz.prog W 61 (fun r : Rls => [.sc (.int .i64 r.v.a), .sc (.int .i64 r.v.b), .sc (.int .i64 r.v.c), .sc (.string r.v.p), .sc (.int .i64 r.level), .ls (r.needs.map ndT)]) :=
  (opens_struct Tryz.underlying61 (by kernel_rfl) (OpensF.cons rfl (k := 4) (by kernel_rfl) opens_ver (OpensF.cons rfl (k := 1) (by kernel_rfl) (opens_int Tryz.underlying3) (OpensF.cons rfl (k := 1) (by kernel_rfl) opens_nds OpensF.nil)))).map (fun p : Ver × Int × List Nd × Unit => ⟨p.1, p.2.1, p.2.2.1⟩) (fun p => rfl)
theorem opens_rlss : Opens enc Tryz.prog W 62 (fun l : List Rls => [.ls (l.map rlsT)]) :=
  opens_slice rlsT (fun c => rfl) Tryz.underlying62 (fun c => by rw [show (Tryz.prog).cellsOf 61 = 6 by kernel_rfl]; rfl) (by rw [show (Tryz.prog).cellsOf 61 = 6 by kernel_rfl]; omega) opens_rls
theorem opens_svc : Opens enc Tryz.prog W 64 (fun s : Svc => [.sc (.string s.name), .ls (s.rels.map rlsT)]) :=
  (opens_struct Tryz.underlying64 (by kernel_rfl) (OpensF.cons rfl (k := 1) (by kernel_rfl) (opens_string Tryz.underlying9) (OpensF.cons rfl (k := 1) (by kernel_rfl) opens_rlss OpensF.nil))).map (fun p : ByteArray × List Rls × Unit => ⟨p.1, p.2.1⟩) (fun p => rfl)
theorem opens_cat : Opens enc Tryz.prog W 24 (fun c : Ctl => [.ls (c.map svcT)]) :=
  (opens_struct Tryz.underlying24 (by kernel_rfl) (OpensF.cons rfl (k := 1) (by kernel_rfl) (opens_slice svcT (fun c => rfl) Tryz.underlying22 (fun c => by rw [show (Tryz.prog).cellsOf 64 = 2 by kernel_rfl]; rfl) (by rw [show (Tryz.prog).cellsOf 64 = 2 by kernel_rfl]; omega) opens_svc) OpensF.nil)).map (fun p : Ctl × Unit => p.1) (fun p => rfl)
theorem opens_ints : Opens enc Tryz.prog W 25 (fun l : List Int => [.ls (l.map fun v => .sc (.int .i64 v))]) :=
  opens_slice (fun v : Int => T.sc (.int .i64 v)) (fun c => rfl) Tryz.underlying25 (fun c => by rw [show (Tryz.prog).cellsOf 3 = 1 by kernel_rfl]; rfl) (by rw [show (Tryz.prog).cellsOf 3 = 1 by kernel_rfl]; omega) (opens_int Tryz.underlying3)
end
end Go.Lg.Tryz
