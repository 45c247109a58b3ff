/- Words and laws that the theorem leans on (part 6). -/
import Derived.Test.YtdjdfdfelcnpmaaGreatDoorP91203479
import Derived.Test.YtdjdfdfelcnpmaaGreatDoorPe8c6d24c
import Derived.Test.YtdjdfdfelcnpmaaGreatDoorP99dee1b1
import Derived.Test.YtdjdfdfelcnpmaaGreatDoorPa24660a1
import Derived.Test.YtdjdfdfelcnpmaaGreatDoorPa35f6e9a
import Derived.Test.YtdjdfdfelcnpmaaGreatDoorRows
import Derived.Carry
import Derived.Lib.SmallJoins
import Derived.LaidMore
import Derived.PinnedBridge
import Derived.HandedShaped
import Derived.ProofKit
import Derived.OpenShut
import Derived.ShutString
import Derived.SizedLaws
import Derived.Stop.LaidErr
import Derived.Stop.Joined
import Derived.Shelf.Vars
import Derived.Lib.LaidTab
import Derived.MakeChecks
set_option linter.unusedVariables false
set_option linter.unusedSimpArgs false

set_option linter.unusedVariables false
set_option linter.unusedSimpArgs false
namespace Go.Lg.Tryz
open Go Go.Proofs Go.RowKit Go.Lib Go.Lg.Sem
def gA (i : Nat) (k : Nat) (s : Svc) : AV := if k < i then .raw 78 true (s.rels.map rlsT) else .tr (.ls (s.rels.map rlsT))
theorem gA_refs (κ : Loc) (i k : Nat) (s : Svc) : (gA i k s).refs κ = false := by unfold gA; split <;> rfl
theorem gA_zero (c : Ctl) : svA c (gA 0) = svA c (fun _ s => .tr (.ls (s.rels.map rlsT))) := svA_congr fun k s _ => by unfold gA; rw [if_neg (by omega)]
theorem gA_full (c : Ctl) : svA c (gA c.length) = svA c (fun _ s => .raw 78 true (s.rels.map rlsT)) := svA_congr fun k s h => by unfold gA; rw [if_pos (List.getElem?_eq_some_iff.1 h).1]
theorem gA_succ {c : Ctl} {i : Nat} {s : Svc} (h : c[i]? = some s) : (svA c (gA i)).set (i * 2 + 1) (.raw 78 true (s.rels.map rlsT)) = svA c (gA (i + 1)) := by
  rw [svA_set (List.getElem?_eq_some_iff.1 h).1]
  refine svA_congr fun k s' h' => ?_
  by_cases e : k = i
  · subst e
    obtain rfl := Option.some.inj (h.symm.trans h')
    rw [if_pos rfl]; unfold gA; rw [if_pos (by omega)]
  · rw [if_neg e]; unfold gA
    by_cases e2 : k < i
    · rw [if_pos e2, if_pos (by omega)]
    · rw [if_neg e2, if_neg (by omega)]
theorem ag6 (l : List Rls) : ∀ x, x ∈ l.map rlsT → x.cells.length = 6 := by intro x hx; obtain ⟨a, _, rfl⟩ := List.mem_map.1 hx; rfl
theorem ag2 (l : List Nd) : ∀ x, x ∈ l.map ndT → x.cells.length = 2 := by intro x hx; obtain ⟨a, _, rfl⟩ := List.mem_map.1 hx; rfl
theorem ag1 (l : Rng) : ∀ x, x ∈ l.map cmpsT → x.cells.length = 1 := by intro x hx; obtain ⟨a, _, rfl⟩ := List.mem_map.1 hx; rfl
theorem fl_hc {es : Nat} (hpos : 0 < es) {xs : List T} (hx : ∀ x, x ∈ xs → x.cells.length = es) (U : List AV) : ∀ (i j : Nat) (x y : T), xs[i]? = some x → x.cells[j]? = some y → ∃ v, (fl xs ++ U)[i * es + j]? = some v ∧ v.deg = .tr y := by
  intro i j x y hi hj
  have h := fl_at hpos hx hi hj
  exact ⟨.tr y, by rw [List.getElem?_append_left (List.getElem?_eq_some_iff.1 h).1]; exact h, rfl⟩
theorem sl_refs {κ κ' : Loc} {a b : Nat} (h : κ ≠ κ') : (AV.sl κ' a b).refs κ = false := by
  simp only [AV.refs]; exact Loc.eqb_ne (fun e => h e.symm)
theorem set_same {l : List AV} {i : Nat} {v : AV} (h : l[i]? = some v) : l.set i v = l := by
  have := set_back (y := v) h
  rw [List.set_set] at this; exact this
theorem set_app {l U : List AV} {i : Nat} {v : AV} (h : i < l.length) : (l ++ U).set i v = l.set i v ++ U := List.set_append_left _ _ h
set_option maxRecDepth 8192 in
set_option maxHeartbeats 3200000 in
theorem catClone_ok (c : Ctl) (hs : smallC c = true) (h1 : 1 ≤ c.length) (hr1 : ∀ s, s ∈ c → 1 ≤ s.rels.length) :
    FnX Tryz.prog Gw 27 [.tr (ctlT c)] [] (fun r N => ∃ cap, c.length ≤ cap ∧ r = .agg [.sl (.l 2000) c.length cap] ∧ N = [(.l 2000, .blk 72 (svA c (fun _ s => .raw 78 true (s.rels.map rlsT)) ++ List.replicate ((cap - c.length) * 2) .unk))]) := by
  obtain ⟨hc16, hsm⟩ := smallC_of hs
  have hS := cloneRS svcT (fun a => rfl) (xs := c) (by intro h; subst h; simp at h1) (by omega)
  refine FnX.of [] tab_ok Tryz.func27 rfl (by decide) (by simp [Tryz.f27]) rfl (fun κ v h => nomatch h) ?_
  repeat' (first|refine zS ?_|refine zR ?_|refine zE tab_ok rfl rfl ?_|refine zN ?_|(refine zG rfl rfl (fun _ => ?_) fun _ => ?_)<;>refine zE tab_ok rfl rfl ?_|(refine zC rfl (fun _ => ?_) fun _ => ?_)<;>try (rename_i h; cases h; done)|refine zB ?_|refine zK ?_|refine zZ ⟨_, rfl, ?_⟩)
  refine Sq.callv rfl (hS) ?_
  refine Sq.thaw tab_ok 13 (.l 2000) (xs := c.map svcT) rfl (by intro h; rw [List.map_eq_nil_iff] at h; subst h; simp at h1) rfl (by decide) rfl rfl ?_
  intro cap hcap
  rw [List.length_map] at hcap ⊢
  rw [show ((c.map svcT).flatMap T.cells).map AV.tr = fl (c.map svcT) from rfl, svA_fl, ← gA_zero]
  generalize hpd : (cap - c.length) * 2 = pd
  have hf0 := fun κ => svA_refs (κ := κ) (c := c) (g := gA 0) (fun k s _ => gA_refs κ 0 k s) pd
  repeat' (first|refine zS ?_|refine zR ?_|refine zE tab_ok rfl rfl ?_|refine zN ?_|(refine zG rfl rfl (fun _ => ?_) fun _ => ?_)<;>refine zE tab_ok rfl rfl ?_|(refine zC rfl (fun _ => ?_) fun _ => ?_)<;>try (rename_i h; cases h; done)|refine zB ?_|refine zK ?_|refine zZ ⟨_, rfl, ?_⟩)
  refine zE tab_ok rfl (by simp [-List.map_map, freshB, pinB, refsM, AV.refs, hf0, refsL, Loc.eqb, putO, entryS]; try decide) ?_
  repeat' (first|refine zS ?_|refine zR ?_|refine zE tab_ok rfl rfl ?_|refine zN ?_|(refine zG rfl rfl (fun _ => ?_) fun _ => ?_)<;>refine zE tab_ok rfl rfl ?_|(refine zC rfl (fun _ => ?_) fun _ => ?_)<;>try (rename_i h; cases h; done)|refine zB ?_|refine zK ?_|refine zZ ⟨_, rfl, ?_⟩)
  refine Sq.lenS tab_ok rfl ?_
  repeat' (first|refine zS ?_|refine zR ?_|refine zE tab_ok rfl rfl ?_|refine zN ?_|(refine zG rfl rfl (fun _ => ?_) fun _ => ?_)<;>refine zE tab_ok rfl rfl ?_|(refine zC rfl (fun _ => ?_) fun _ => ?_)<;>try (rename_i h; cases h; done)|refine zB ?_|refine zK ?_|refine zZ ⟨_, rfl, ?_⟩)
  refine Tr.loopS (fun i : Nat => [(.s 2, .ptr (.l 2) 0), (.l 2, .blk 24 [.own 72 []]), (.s 3, .ptr (.l 3) 0), (.l 3, .blk 24 [.sl (.l 2000) c.length cap]), (.s 17, int c.length), (.l 2000, .blk 72 (svA c (gA i) ++ List.replicate pd .unk)), (.s 18, int i)]) (fun i => c.length - i) (fun i => i ≤ c.length)
    0 (by omega) (Sub.app (l := [_, _, _, _, _, _, _]) (H := []) ⟨rfl, rfl, rfl, rfl, rfl, rfl, rfl, trivial⟩ (fun κ v h => nomatch h)) ?_
  rintro i hi
  repeat' (first|refine zS ?_|refine zR ?_|refine zE tab_ok rfl rfl ?_|refine zN ?_|(refine zG rfl rfl (fun _ => ?_) fun _ => ?_)<;>refine zE tab_ok rfl rfl ?_|(refine zC rfl (fun _ => ?_) fun _ => ?_)<;>try (rename_i h; cases h; done)|refine zB ?_|refine zK ?_|refine zZ ⟨_, rfl, ?_⟩)
  · rename_i h2
    have hlt : i < c.length := by have := of_decide_eq_true h2; omega
    obtain ⟨s, hsi⟩ : ∃ s, c[i]? = some s := ⟨_, List.getElem?_eq_getElem hlt⟩
    obtain ⟨_, hrl, hrs⟩ := Svc.of_small (hsm s (List.mem_of_getElem? hsi))
    have hr1' := hr1 s (List.mem_of_getElem? hsi)
    have hne : s.rels ≠ [] := by intro h; rw [h] at hr1'; simp at hr1'
    have hR := cloneRR rlsT (fun a => rfl) (xs := s.rels) hne (by omega)
    have hcl : (svA c (gA i))[i * 2 + 1]? = some (.tr (.ls (s.rels.map rlsT))) := by rw [svA_at1 hsi]; unfold gA; rw [if_neg (by omega)]
    have hcl2 := hcl
    have hsl := svA_len c (gA i)
    have hnx := gA_succ hsi
    have hf := fun κ => svA_refs (κ := κ) (c := c) (g := gA i) (fun k s _ => gA_refs κ i k s) pd
    generalize svA c (gA i) = A at *
    have hcell : (A ++ List.replicate pd AV.unk)[i * 2 + 1]? = some (.tr (.ls (s.rels.map rlsT))) := by rw [List.getElem?_append_left (by omega)]; exact hcl
    refine Sq.indexS (j := ((i : Nat) : Int)) (len := c.length) tab_ok rfl (by omega) (by omega) ?_
    repeat' (first|refine zS ?_|refine zR ?_|refine zE tab_ok rfl rfl ?_|refine zN ?_|(refine zG rfl rfl (fun _ => ?_) fun _ => ?_)<;>refine zE tab_ok rfl rfl ?_|(refine zC rfl (fun _ => ?_) fun _ => ?_)<;>try (rename_i h; cases h; done)|refine zB ?_|refine zK ?_|refine zZ ⟨_, rfl, ?_⟩)
    refine Sq.nilC rfl ?_
    repeat' (first|refine zS ?_|refine zR ?_|refine zE tab_ok rfl rfl ?_|refine zN ?_|(refine zG rfl rfl (fun _ => ?_) fun _ => ?_)<;>refine zE tab_ok rfl rfl ?_|(refine zC rfl (fun _ => ?_) fun _ => ?_)<;>try (rename_i h; cases h; done)|refine zB ?_|refine zK ?_|refine zZ ⟨_, rfl, ?_⟩)
    refine Sq.loadS (v := .tr (.ls (s.rels.map rlsT))) tab_ok rfl (by rw [Int.toNat_natCast]; exact hcell) ?_
    refine Sq.callv rfl (hR) ?_
    refine Sq.thaw tab_ok 30 (.l 2001) (xs := s.rels.map rlsT) rfl (by intro h; rw [List.map_eq_nil_iff] at h; exact hne h) rfl (by decide) rfl (by simp [-List.map_map, freshB, pinB, refsM, AV.refs, AV.deg, putO, hf, refsL, Loc.eqb]; try decide) ?_
    intro capR hcapR
    rw [List.length_map] at hcapR ⊢
    rw [show ((s.rels.map rlsT).flatMap T.cells).map AV.tr = fl (s.rels.map rlsT) from rfl]
    have hRl := fl_len (es := 6) (by omega) (ag6 s.rels)
    rw [List.length_map] at hRl
    generalize hpr : (capR - s.rels.length) * 6 = pr
    refine Sq.nilC rfl ?_
    repeat' (first|refine zS ?_|refine zR ?_|refine zE tab_ok rfl rfl ?_|refine zN ?_|(refine zG rfl rfl (fun _ => ?_) fun _ => ?_)<;>refine zE tab_ok rfl rfl ?_|(refine zC rfl (fun _ => ?_) fun _ => ?_)<;>try (rename_i h; cases h; done)|refine zB ?_|refine zK ?_|refine zZ ⟨_, rfl, ?_⟩)
    refine Sq.storeS tab_ok rfl (by show ((i : Nat) : Int).toNat * 2 + 1 < _; rw [List.length_append]; omega) ?_
    have hW : ((A ++ List.replicate pd AV.unk).set (((i : Nat) : Int).toNat * 2 + 1) (AV.sl (.l 2001) s.rels.length capR))[((i : Nat) : Int).toNat * 2 + 1]? = some (.sl (.l 2001) s.rels.length capR) := by
      rw [List.getElem?_set_self (by rw [List.length_append]; omega)]
    have hfW : ∀ κ, κ ≠ .l 2001 → refsL κ ((A ++ List.replicate pd AV.unk).set (((i : Nat) : Int).toNat * 2 + 1) (AV.sl (.l 2001) s.rels.length capR)) = false := fun κ hk => refsL_set (sl_refs hk) (hf κ)
    have hWb : ∀ v, (((A ++ List.replicate pd AV.unk).set (((i : Nat) : Int).toNat * 2 + 1) (AV.sl (.l 2001) s.rels.length capR)).set (((i : Nat) : Int).toNat * 2 + 1) v) = A.set (i * 2 + 1) v ++ List.replicate pd AV.unk := fun v => by rw [List.set_set, Int.toNat_natCast, set_app (by omega)]
    rw [show (AV.sl (.l 2001) s.rels.length capR).deg = AV.sl (.l 2001) s.rels.length capR from rfl]
    generalize (A ++ List.replicate pd AV.unk).set (((i : Nat) : Int).toNat * 2 + 1) (AV.sl (.l 2001) s.rels.length capR) = W at *
    repeat' (first|refine zS ?_|refine zR ?_|refine zE tab_ok rfl rfl ?_|refine zN ?_|(refine zG rfl rfl (fun _ => ?_) fun _ => ?_)<;>refine zE tab_ok rfl rfl ?_|(refine zC rfl (fun _ => ?_) fun _ => ?_)<;>try (rename_i h; cases h; done)|refine zB ?_|refine zK ?_|refine zZ ⟨_, rfl, ?_⟩)
    refine Sq.nilC rfl ?_
    repeat' (first|refine zS ?_|refine zR ?_|refine zE tab_ok rfl rfl ?_|refine zN ?_|(refine zG rfl rfl (fun _ => ?_) fun _ => ?_)<;>refine zE tab_ok rfl rfl ?_|(refine zC rfl (fun _ => ?_) fun _ => ?_)<;>try (rename_i h; cases h; done)|refine zB ?_|refine zK ?_|refine zZ ⟨_, rfl, ?_⟩)
    refine Sq.loadS (v := .sl (.l 2001) s.rels.length capR) tab_ok rfl hW ?_
    refine Sq.lenS tab_ok rfl ?_
    repeat' (first|refine zS ?_|refine zR ?_|refine zE tab_ok rfl rfl ?_|refine zN ?_|(refine zG rfl rfl (fun _ => ?_) fun _ => ?_)<;>refine zE tab_ok rfl rfl ?_|(refine zC rfl (fun _ => ?_) fun _ => ?_)<;>try (rename_i h; cases h; done)|refine zB ?_|refine zK ?_|refine zZ ⟨_, rfl, ?_⟩)
    refine Tr.loopS (fun k : Nat => [(.s 2, .ptr (.l 2) 0), (.l 2, .blk 24 [.own 72 []]), (.s 3, .ptr (.l 3) 0), (.l 3, .blk 24 [.sl (.l 2000) c.length cap]), (.s 17, int c.length), (.s 18, int i), (.s 5, .ptr (.l 2000) (((i : Nat) : Int).toNat * 2)), (.l 2000, .blk 72 W), (.l 2001, .blk 78 (fl (s.rels.map rlsT) ++ List.replicate pr .unk)), (.s 37, int s.rels.length), (.s 38, int k)]) (fun k => s.rels.length - k) (fun k => k ≤ s.rels.length)
      0 (by omega) (Sub.app (l := [_, _, _, _, _, _, _, _, _, _, _]) (H := []) ⟨rfl, rfl, rfl, rfl, rfl, rfl, rfl, rfl, rfl, rfl, rfl, trivial⟩ (fun κ v h => nomatch h)) ?_
    rintro k hk
    repeat' (first|refine zS ?_|refine zR ?_|refine zE tab_ok rfl rfl ?_|refine zN ?_|(refine zG rfl rfl (fun _ => ?_) fun _ => ?_)<;>refine zE tab_ok rfl rfl ?_|(refine zC rfl (fun _ => ?_) fun _ => ?_)<;>try (rename_i h; cases h; done)|refine zB ?_|refine zK ?_|refine zZ ⟨_, rfl, ?_⟩)
    · rename_i h3
      have hlk : k < s.rels.length := by have := of_decide_eq_true h3; omega
      obtain ⟨r, hrk⟩ : ∃ r, s.rels[k]? = some r := ⟨_, List.getElem?_eq_getElem hlk⟩
      obtain ⟨hnl, _, hns⟩ := Rls.of_small (hrs r (List.mem_of_getElem? hrk))
      have hrk' : (s.rels.map rlsT)[k]? = some (rlsT r) := by rw [List.getElem?_map, hrk]; rfl
      have hcN := fl_at (es := 6) (by omega) (ag6 s.rels) hrk' (j := 5) (y := .ls (r.needs.map ndT)) rfl
      have hfR := fun κ => fl_refs κ (s.rels.map rlsT) pr
      generalize fl (s.rels.map rlsT) = RC at *
      have hcK : (RC ++ List.replicate pr AV.unk)[((k : Nat) : Int).toNat * 6 + 5]? = some (.tr (.ls (r.needs.map ndT))) := by
        rw [Int.toNat_natCast, List.getElem?_append_left (List.getElem?_eq_some_iff.1 hcN).1]; exact hcN
      have hltK := (List.getElem?_eq_some_iff.1 hcK).1
      generalize RC ++ List.replicate pr AV.unk = RC' at *
      refine Sq.nilC rfl ?_
      repeat' (first|refine zS ?_|refine zR ?_|refine zE tab_ok rfl rfl ?_|refine zN ?_|(refine zG rfl rfl (fun _ => ?_) fun _ => ?_)<;>refine zE tab_ok rfl rfl ?_|(refine zC rfl (fun _ => ?_) fun _ => ?_)<;>try (rename_i h; cases h; done)|refine zB ?_|refine zK ?_|refine zZ ⟨_, rfl, ?_⟩)
      refine Sq.loadS (v := .sl (.l 2001) s.rels.length capR) tab_ok rfl hW ?_
      refine zE tab_ok rfl rfl ?_
      refine Sq.indexS (j := ((k : Nat) : Int)) (len := s.rels.length) tab_ok rfl (by omega) (by omega) ?_
      repeat' (first|refine zS ?_|refine zR ?_|refine zE tab_ok rfl rfl ?_|refine zN ?_|(refine zG rfl rfl (fun _ => ?_) fun _ => ?_)<;>refine zE tab_ok rfl rfl ?_|(refine zC rfl (fun _ => ?_) fun _ => ?_)<;>try (rename_i h; cases h; done)|refine zB ?_|refine zK ?_|refine zZ ⟨_, rfl, ?_⟩)
      refine Sq.nilC rfl ?_
      repeat' (first|refine zS ?_|refine zR ?_|refine zE tab_ok rfl rfl ?_|refine zN ?_|(refine zG rfl rfl (fun _ => ?_) fun _ => ?_)<;>refine zE tab_ok rfl rfl ?_|(refine zC rfl (fun _ => ?_) fun _ => ?_)<;>try (rename_i h; cases h; done)|refine zB ?_|refine zK ?_|refine zZ ⟨_, rfl, ?_⟩)
      refine Sq.loadS (v := .tr (.ls (r.needs.map ndT))) tab_ok rfl hcK ?_
      by_cases hn0 : r.needs = []
      · have hN0 := cloneNd ndT (fun a => rfl) r.needs (by omega)
        refine Sq.callv rfl (hN0) ?_
        refine Sq.nilC rfl ?_
        repeat' (first|refine zS ?_|refine zR ?_|refine zE tab_ok rfl rfl ?_|refine zN ?_|(refine zG rfl rfl (fun _ => ?_) fun _ => ?_)<;>refine zE tab_ok rfl rfl ?_|(refine zC rfl (fun _ => ?_) fun _ => ?_)<;>try (rename_i h; cases h; done)|refine zB ?_|refine zK ?_|refine zZ ⟨_, rfl, ?_⟩)
        refine Sq.storeS tab_ok rfl hltK ?_
        repeat' (first|refine zS ?_|refine zR ?_|refine zE tab_ok rfl rfl ?_|refine zN ?_|(refine zG rfl rfl (fun _ => ?_) fun _ => ?_)<;>refine zE tab_ok rfl rfl ?_|(refine zC rfl (fun _ => ?_) fun _ => ?_)<;>try (rename_i h; cases h; done)|refine zB ?_|refine zK ?_|refine zZ ⟨_, rfl, ?_⟩)
        refine Sq.nilC rfl ?_
        repeat' (first|refine zS ?_|refine zR ?_|refine zE tab_ok rfl rfl ?_|refine zN ?_|(refine zG rfl rfl (fun _ => ?_) fun _ => ?_)<;>refine zE tab_ok rfl rfl ?_|(refine zC rfl (fun _ => ?_) fun _ => ?_)<;>try (rename_i h; cases h; done)|refine zB ?_|refine zK ?_|refine zZ ⟨_, rfl, ?_⟩)
        refine Sq.loadS (v := .tr (.ls (r.needs.map ndT))) tab_ok rfl (List.getElem?_set_self hltK) ?_
        repeat' (first|refine zS ?_|refine zR ?_|refine zE tab_ok rfl rfl ?_|refine zN ?_|(refine zG rfl rfl (fun _ => ?_) fun _ => ?_)<;>refine zE tab_ok rfl rfl ?_|(refine zC rfl (fun _ => ?_) fun _ => ?_)<;>try (rename_i h; cases h; done)|refine zB ?_|refine zK ?_|refine zZ ⟨_, rfl, ?_⟩)
        refine Tr.loopS (fun n : Nat => [(.s 2, .ptr (.l 2) 0), (.l 2, .blk 24 [.own 72 []]), (.s 3, .ptr (.l 3) 0), (.l 3, .blk 24 [.sl (.l 2000) c.length cap]), (.s 17, int c.length), (.s 18, int i), (.s 5, .ptr (.l 2000) (((i : Nat) : Int).toNat * 2)), (.l 2000, .blk 72 W), (.l 2001, .blk 78 RC'), (.s 37, int s.rels.length), (.s 38, int k), (.s 59, int (r.needs.map ndT).length), (.s 60, int 0)]) (fun n => 0) (fun _ => True)
          0 trivial (Sub.app (l := [_, _, _, _, _, _, _, _, _, _, _, _, _]) (H := []) ⟨rfl, rfl, rfl, rfl, rfl, rfl, rfl, rfl, congrArg (fun l => some (AV.blk 78 l)) (set_same hcK), rfl, rfl, rfl, rfl, trivial⟩ (fun κ v h => nomatch h)) ?_
        rintro n _
        repeat' (first|refine zS ?_|refine zR ?_|refine zE tab_ok rfl rfl ?_|refine zN ?_|(refine zG rfl rfl (fun _ => ?_) fun _ => ?_)<;>refine zE tab_ok rfl rfl ?_|(refine zC rfl (fun _ => ?_) fun _ => ?_)<;>try (rename_i h; cases h; done)|refine zB ?_|refine zK ?_|refine zZ ⟨_, rfl, ?_⟩)
        · exfalso
          rename_i h4
          rw [hn0] at h4
          cases h4
        · refine Tr.exit ?_
          repeat' (first|refine zS ?_|refine zR ?_|refine zE tab_ok rfl rfl ?_|refine zN ?_|(refine zG rfl rfl (fun _ => ?_) fun _ => ?_)<;>refine zE tab_ok rfl rfl ?_|(refine zC rfl (fun _ => ?_) fun _ => ?_)<;>try (rename_i h; cases h; done)|refine zB ?_|refine zK ?_|refine zZ ⟨_, rfl, ?_⟩)
          exact ⟨k + 1, by omega, by omega, Sub.app (l := [_, _, _, _, _, _, _, _, _, _, _]) (H := []) ⟨rfl, rfl, rfl, rfl, rfl, rfl, rfl, rfl, rfl, rfl, congrArg some (wrapz (by omega) (by omega) (by omega)), trivial⟩ (fun κ v h => nomatch h)⟩
      have hN1 := cloneRN ndT (fun a => rfl) (xs := r.needs) hn0 (by omega)
      refine Sq.callv rfl (hN1) ?_
      refine Sq.thaw tab_ok 52 (.l 2002) (xs := r.needs.map ndT) rfl (by intro h; rw [List.map_eq_nil_iff] at h; exact hn0 h) rfl (by decide) rfl (by simp [-List.map_map, freshB, pinB, refsM, AV.refs, AV.deg, putO, hfR, hfW, refsL, Loc.eqb]; try decide) ?_
      intro capN hcapN
      rw [List.length_map] at hcapN ⊢
      rw [show ((r.needs.map ndT).flatMap T.cells).map AV.tr = fl (r.needs.map ndT) from rfl]
      have hNl := fl_len (es := 2) (by omega) (ag2 r.needs)
      rw [List.length_map] at hNl
      generalize hpn : (capN - r.needs.length) * 2 = pn
      refine Sq.nilC rfl ?_
      repeat' (first|refine zS ?_|refine zR ?_|refine zE tab_ok rfl rfl ?_|refine zN ?_|(refine zG rfl rfl (fun _ => ?_) fun _ => ?_)<;>refine zE tab_ok rfl rfl ?_|(refine zC rfl (fun _ => ?_) fun _ => ?_)<;>try (rename_i h; cases h; done)|refine zB ?_|refine zK ?_|refine zZ ⟨_, rfl, ?_⟩)
      refine Sq.storeS tab_ok rfl hltK ?_
      have hV : (RC'.set (((k : Nat) : Int).toNat * 6 + 5) (AV.sl (.l 2002) r.needs.length capN))[((k : Nat) : Int).toNat * 6 + 5]? = some (.sl (.l 2002) r.needs.length capN) := List.getElem?_set_self hltK
      have hVb : (RC'.set (((k : Nat) : Int).toNat * 6 + 5) (AV.sl (.l 2002) r.needs.length capN)).set (((k : Nat) : Int).toNat * 6 + 5) (.tr (.ls (r.needs.map ndT))) = RC' := set_back hcK
      have hfV : ∀ κ, κ ≠ .l 2002 → refsL κ (RC'.set (((k : Nat) : Int).toNat * 6 + 5) (AV.sl (.l 2002) r.needs.length capN)) = false := fun κ hk => refsL_set (sl_refs hk) (hfR κ)
      rw [show (AV.sl (.l 2002) r.needs.length capN).deg = AV.sl (.l 2002) r.needs.length capN from rfl]
      generalize RC'.set (((k : Nat) : Int).toNat * 6 + 5) (AV.sl (.l 2002) r.needs.length capN) = V at *
      repeat' (first|refine zS ?_|refine zR ?_|refine zE tab_ok rfl rfl ?_|refine zN ?_|(refine zG rfl rfl (fun _ => ?_) fun _ => ?_)<;>refine zE tab_ok rfl rfl ?_|(refine zC rfl (fun _ => ?_) fun _ => ?_)<;>try (rename_i h; cases h; done)|refine zB ?_|refine zK ?_|refine zZ ⟨_, rfl, ?_⟩)
      refine Sq.nilC rfl ?_
      repeat' (first|refine zS ?_|refine zR ?_|refine zE tab_ok rfl rfl ?_|refine zN ?_|(refine zG rfl rfl (fun _ => ?_) fun _ => ?_)<;>refine zE tab_ok rfl rfl ?_|(refine zC rfl (fun _ => ?_) fun _ => ?_)<;>try (rename_i h; cases h; done)|refine zB ?_|refine zK ?_|refine zZ ⟨_, rfl, ?_⟩)
      refine Sq.loadS (v := .sl (.l 2002) r.needs.length capN) tab_ok rfl hV ?_
      refine Sq.lenS tab_ok rfl ?_
      repeat' (first|refine zS ?_|refine zR ?_|refine zE tab_ok rfl rfl ?_|refine zN ?_|(refine zG rfl rfl (fun _ => ?_) fun _ => ?_)<;>refine zE tab_ok rfl rfl ?_|(refine zC rfl (fun _ => ?_) fun _ => ?_)<;>try (rename_i h; cases h; done)|refine zB ?_|refine zK ?_|refine zZ ⟨_, rfl, ?_⟩)
      refine Tr.loopS (fun n : Nat => [(.s 2, .ptr (.l 2) 0), (.l 2, .blk 24 [.own 72 []]), (.s 3, .ptr (.l 3) 0), (.l 3, .blk 24 [.sl (.l 2000) c.length cap]), (.s 17, int c.length), (.s 18, int i), (.s 5, .ptr (.l 2000) (((i : Nat) : Int).toNat * 2)), (.l 2000, .blk 72 W), (.s 7, .ptr (.l 2001) (((k : Nat) : Int).toNat * 6)), (.l 2001, .blk 78 V), (.l 2002, .blk 83 (fl (r.needs.map ndT) ++ List.replicate pn .unk)), (.s 37, int s.rels.length), (.s 38, int k), (.s 59, int r.needs.length), (.s 60, int n)]) (fun n => r.needs.length - n) (fun n => n ≤ r.needs.length)
        0 (by omega) (Sub.app (l := [_, _, _, _, _, _, _, _, _, _, _, _, _, _, _]) (H := []) ⟨rfl, rfl, rfl, rfl, rfl, rfl, rfl, rfl, rfl, rfl, rfl, rfl, rfl, rfl, rfl, trivial⟩ (fun κ v h => nomatch h)) ?_
      rintro n hn
      repeat' (first|refine zS ?_|refine zR ?_|refine zE tab_ok rfl rfl ?_|refine zN ?_|(refine zG rfl rfl (fun _ => ?_) fun _ => ?_)<;>refine zE tab_ok rfl rfl ?_|(refine zC rfl (fun _ => ?_) fun _ => ?_)<;>try (rename_i h; cases h; done)|refine zB ?_|refine zK ?_|refine zZ ⟨_, rfl, ?_⟩)
      · rename_i h4
        have hln : n < r.needs.length := by have := of_decide_eq_true h4; omega
        obtain ⟨nd, hnd⟩ : ∃ r', r.needs[n]? = some r' := ⟨_, List.getElem?_eq_getElem hln⟩
        obtain ⟨_, hal, hac⟩ := Nd.of_small (hns nd (List.mem_of_getElem? hnd))
        have hnd' : (r.needs.map ndT)[n]? = some (ndT nd) := by rw [List.getElem?_map, hnd]; rfl
        have hcA0 := fl_at (es := 2) (by omega) (ag2 r.needs) hnd' (j := 1) (y := .ls (nd.r.map cmpsT)) rfl
        have hfN := fun κ => fl_refs κ (r.needs.map ndT) pn
        generalize fl (r.needs.map ndT) = NC at *
        have hcA : (NC ++ List.replicate pn AV.unk)[((n : Nat) : Int).toNat * 2 + 1]? = some (.tr (.ls (nd.r.map cmpsT))) := by
          rw [Int.toNat_natCast, List.getElem?_append_left (List.getElem?_eq_some_iff.1 hcA0).1]; exact hcA0
        have hltA := (List.getElem?_eq_some_iff.1 hcA).1
        generalize NC ++ List.replicate pn AV.unk = NC' at *
        refine Sq.nilC rfl ?_
        repeat' (first|refine zS ?_|refine zR ?_|refine zE tab_ok rfl rfl ?_|refine zN ?_|(refine zG rfl rfl (fun _ => ?_) fun _ => ?_)<;>refine zE tab_ok rfl rfl ?_|(refine zC rfl (fun _ => ?_) fun _ => ?_)<;>try (rename_i h; cases h; done)|refine zB ?_|refine zK ?_|refine zZ ⟨_, rfl, ?_⟩)
        refine Sq.loadS (v := .sl (.l 2002) r.needs.length capN) tab_ok rfl hV ?_
        refine zE tab_ok rfl rfl ?_
        refine Sq.indexS (j := ((n : Nat) : Int)) (len := r.needs.length) tab_ok rfl (by omega) (by omega) ?_
        repeat' (first|refine zS ?_|refine zR ?_|refine zE tab_ok rfl rfl ?_|refine zN ?_|(refine zG rfl rfl (fun _ => ?_) fun _ => ?_)<;>refine zE tab_ok rfl rfl ?_|(refine zC rfl (fun _ => ?_) fun _ => ?_)<;>try (rename_i h; cases h; done)|refine zB ?_|refine zK ?_|refine zZ ⟨_, rfl, ?_⟩)
        refine Sq.loadS (v := .tr (.ls (nd.r.map cmpsT))) tab_ok rfl hcA ?_
        by_cases ha0 : nd.r = []
        · have hA0 := cloneAn cmpsT (fun a => rfl) nd.r (by omega)
          refine Sq.callv rfl (hA0) ?_
          repeat' (first|refine zS ?_|refine zR ?_|refine zE tab_ok rfl rfl ?_|refine zN ?_|(refine zG rfl rfl (fun _ => ?_) fun _ => ?_)<;>refine zE tab_ok rfl rfl ?_|(refine zC rfl (fun _ => ?_) fun _ => ?_)<;>try (rename_i h; cases h; done)|refine zB ?_|refine zK ?_|refine zZ ⟨_, rfl, ?_⟩)
          refine Tr.loopS (fun a : Nat => [(.s 2, .ptr (.l 2) 0), (.l 2, .blk 24 [.own 72 []]), (.s 3, .ptr (.l 3) 0), (.l 3, .blk 24 [.sl (.l 2000) c.length cap]), (.s 17, int c.length), (.s 18, int i), (.s 5, .ptr (.l 2000) (((i : Nat) : Int).toNat * 2)), (.l 2000, .blk 72 W), (.s 7, .ptr (.l 2001) (((k : Nat) : Int).toNat * 6)), (.l 2001, .blk 78 V), (.l 2002, .blk 83 NC'), (.s 37, int s.rels.length), (.s 38, int k), (.s 59, int r.needs.length), (.s 60, int n), (.s 8, int n), (.s 9, .own 84 (nd.r.map cmpsT)), (.s 74, int (nd.r.map cmpsT).length), (.s 75, int 0)]) (fun n => 0) (fun _ => True)
            0 trivial (Sub.app (l := [_, _, _, _, _, _, _, _, _, _, _, _, _, _, _, _, _, _, _]) (H := []) ⟨rfl, rfl, rfl, rfl, rfl, rfl, rfl, rfl, rfl, rfl, rfl, rfl, rfl, rfl, rfl, rfl, rfl, rfl, rfl, trivial⟩ (fun κ v h => nomatch h)) ?_
          rintro a _
          repeat' (first|refine zS ?_|refine zR ?_|refine zE tab_ok rfl rfl ?_|refine zN ?_|(refine zG rfl rfl (fun _ => ?_) fun _ => ?_)<;>refine zE tab_ok rfl rfl ?_|(refine zC rfl (fun _ => ?_) fun _ => ?_)<;>try (rename_i h; cases h; done)|refine zB ?_|refine zK ?_|refine zZ ⟨_, rfl, ?_⟩)
          · exfalso
            rename_i h5
            rw [ha0] at h5
            cases h5
          · refine Tr.exit ?_
            repeat' (first|refine zS ?_|refine zR ?_|refine zE tab_ok rfl rfl ?_|refine zN ?_|(refine zG rfl rfl (fun _ => ?_) fun _ => ?_)<;>refine zE tab_ok rfl rfl ?_|(refine zC rfl (fun _ => ?_) fun _ => ?_)<;>try (rename_i h; cases h; done)|refine zB ?_|refine zK ?_|refine zZ ⟨_, rfl, ?_⟩)
            refine Sq.nilC rfl ?_
            repeat' (first|refine zS ?_|refine zR ?_|refine zE tab_ok rfl rfl ?_|refine zN ?_|(refine zG rfl rfl (fun _ => ?_) fun _ => ?_)<;>refine zE tab_ok rfl rfl ?_|(refine zC rfl (fun _ => ?_) fun _ => ?_)<;>try (rename_i h; cases h; done)|refine zB ?_|refine zK ?_|refine zZ ⟨_, rfl, ?_⟩)
            refine Sq.loadS (v := .sl (.l 2002) r.needs.length capN) tab_ok rfl hV ?_
            refine zE tab_ok rfl rfl ?_
            refine zE tab_ok rfl rfl ?_
            refine Sq.indexS (j := ((n : Nat) : Int)) (len := r.needs.length) tab_ok rfl (by omega) (by omega) ?_
            repeat' (first|refine zS ?_|refine zR ?_|refine zE tab_ok rfl rfl ?_|refine zN ?_|(refine zG rfl rfl (fun _ => ?_) fun _ => ?_)<;>refine zE tab_ok rfl rfl ?_|(refine zC rfl (fun _ => ?_) fun _ => ?_)<;>try (rename_i h; cases h; done)|refine zB ?_|refine zK ?_|refine zZ ⟨_, rfl, ?_⟩)
            refine Sq.storeS tab_ok rfl hltA ?_
            repeat' (first|refine zS ?_|refine zR ?_|refine zE tab_ok rfl rfl ?_|refine zN ?_|(refine zG rfl rfl (fun _ => ?_) fun _ => ?_)<;>refine zE tab_ok rfl rfl ?_|(refine zC rfl (fun _ => ?_) fun _ => ?_)<;>try (rename_i h; cases h; done)|refine zB ?_|refine zK ?_|refine zZ ⟨_, rfl, ?_⟩)
            exact ⟨n + 1, by omega, by omega, Sub.app (l := [_, _, _, _, _, _, _, _, _, _, _, _, _, _, _]) (H := []) ⟨rfl, rfl, rfl, rfl, rfl, rfl, rfl, rfl, rfl, rfl, congrArg (fun l => some (AV.blk 83 l)) (set_same hcA), rfl, rfl, rfl, congrArg some (wrapz (by omega) (by omega) (by omega)), trivial⟩ (fun κ v h => nomatch h)⟩
        have hA1 := cloneRA cmpsT (fun a => rfl) (xs := nd.r) ha0 (by omega)
        refine Sq.callv rfl (hA1) ?_
        refine Sq.thaw tab_ok 72 (.l 2003) (xs := nd.r.map cmpsT) rfl (by intro h; rw [List.map_eq_nil_iff] at h; exact ha0 h) rfl (by decide) rfl (by simp [-List.map_map, freshB, pinB, refsM, AV.refs, AV.deg, putO, hfV, hfN, hfW, refsL, Loc.eqb]; try decide) ?_
        intro capA hcapA
        rw [List.length_map] at hcapA ⊢
        rw [flat_one (by intro x hx; obtain ⟨a, _, rfl⟩ := List.mem_map.1 hx; rfl)]
        generalize hUA : List.replicate ((capA - nd.r.length) * 1) AV.unk = UA
        repeat' (first|refine zS ?_|refine zR ?_|refine zE tab_ok rfl rfl ?_|refine zN ?_|(refine zG rfl rfl (fun _ => ?_) fun _ => ?_)<;>refine zE tab_ok rfl rfl ?_|(refine zC rfl (fun _ => ?_) fun _ => ?_)<;>try (rename_i h; cases h; done)|refine zB ?_|refine zK ?_|refine zZ ⟨_, rfl, ?_⟩)
        refine Sq.lenS tab_ok rfl ?_
        repeat' (first|refine zS ?_|refine zR ?_|refine zE tab_ok rfl rfl ?_|refine zN ?_|(refine zG rfl rfl (fun _ => ?_) fun _ => ?_)<;>refine zE tab_ok rfl rfl ?_|(refine zC rfl (fun _ => ?_) fun _ => ?_)<;>try (rename_i h; cases h; done)|refine zB ?_|refine zK ?_|refine zZ ⟨_, rfl, ?_⟩)
        refine Tr.loopS (fun a : Nat => [(.s 2, .ptr (.l 2) 0), (.l 2, .blk 24 [.own 72 []]), (.s 3, .ptr (.l 3) 0), (.l 3, .blk 24 [.sl (.l 2000) c.length cap]), (.s 17, int c.length), (.s 18, int i), (.s 5, .ptr (.l 2000) (((i : Nat) : Int).toNat * 2)), (.l 2000, .blk 72 W), (.s 7, .ptr (.l 2001) (((k : Nat) : Int).toNat * 6)), (.l 2001, .blk 78 V), (.l 2002, .blk 83 NC'), (.s 37, int s.rels.length), (.s 38, int k), (.s 59, int r.needs.length), (.s 60, int n), (.s 8, int n), (.s 9, .sl (.l 2003) nd.r.length capA), (.l 2003, .blk 84 ((nd.r.map cmpsT).map AV.tr ++ UA)), (.s 74, int nd.r.length), (.s 75, int a)]) (fun a => nd.r.length - a) (fun a => a ≤ nd.r.length)
          0 (by omega) (Sub.app (l := [_, _, _, _, _, _, _, _, _, _, _, _, _, _, _, _, _, _, _, _]) (H := []) ⟨rfl, rfl, rfl, rfl, rfl, rfl, rfl, rfl, rfl, rfl, rfl, rfl, rfl, rfl, rfl, rfl, rfl, rfl, rfl, rfl, trivial⟩ (fun κ v h => nomatch h)) ?_
        rintro a ha
        repeat' (first|refine zS ?_|refine zR ?_|refine zE tab_ok rfl rfl ?_|refine zN ?_|(refine zG rfl rfl (fun _ => ?_) fun _ => ?_)<;>refine zE tab_ok rfl rfl ?_|(refine zC rfl (fun _ => ?_) fun _ => ?_)<;>try (rename_i h; cases h; done)|refine zB ?_|refine zK ?_|refine zZ ⟨_, rfl, ?_⟩)
        · rename_i h5
          have hla : a < nd.r.length := by have := of_decide_eq_true h5; omega
          obtain ⟨x, hx⟩ : ∃ x, nd.r[a]? = some x := ⟨_, List.getElem?_eq_getElem hla⟩
          have hxl := hac x (List.mem_of_getElem? hx)
          have hcX : ((nd.r.map cmpsT).map AV.tr ++ UA)[((a : Nat) : Int).toNat * 1]? = some (.tr (cmpsT x)) := by
            rw [Int.toNat_natCast, Nat.mul_one, List.getElem?_append_left (by rw [List.length_map, List.length_map]; exact hla), List.getElem?_map, List.getElem?_map, hx]; rfl
          have hltX := (List.getElem?_eq_some_iff.1 hcX).1
          have hX := cloneCp Cmp.t (fun a => rfl) x (by omega)
          generalize (nd.r.map cmpsT).map AV.tr ++ UA = AC at *
          refine Sq.indexS (j := ((a : Nat) : Int)) (len := nd.r.length) tab_ok rfl (by omega) (by omega) ?_
          refine Sq.loadS (v := .tr (cmpsT x)) tab_ok rfl hcX ?_
          refine Sq.callv rfl (hX) ?_
          refine Sq.indexS (j := ((a : Nat) : Int)) (len := nd.r.length) tab_ok rfl (by omega) (by omega) ?_
          refine Sq.storeS tab_ok rfl hltX ?_
          repeat' (first|refine zS ?_|refine zR ?_|refine zE tab_ok rfl rfl ?_|refine zN ?_|(refine zG rfl rfl (fun _ => ?_) fun _ => ?_)<;>refine zE tab_ok rfl rfl ?_|(refine zC rfl (fun _ => ?_) fun _ => ?_)<;>try (rename_i h; cases h; done)|refine zB ?_|refine zK ?_|refine zZ ⟨_, rfl, ?_⟩)
          exact ⟨a + 1, by omega, by omega, Sub.app (l := [_, _, _, _, _, _, _, _, _, _, _, _, _, _, _, _, _, _, _, _]) (H := []) ⟨rfl, rfl, rfl, rfl, rfl, rfl, rfl, rfl, rfl, rfl, rfl, rfl, rfl, rfl, rfl, rfl, rfl, congrArg (fun l => some (AV.blk 84 l)) (set_same hcX), rfl, congrArg some (wrapz (by omega) (by omega) (by omega)), trivial⟩ (fun κ v h => nomatch h)⟩
        · refine Tr.exit ?_
          refine Tr.turn (fun Γ a w h => RelX.freeze (es := 1) (xs := nd.r.map cmpsT) (cap := capA) (len := nd.r.length) (cells := (nd.r.map cmpsT).map AV.tr ++ UA) h (s := 9) (κ := .l 2003) rfl rfl rfl (by rw [List.length_map]) (by rw [List.length_append, List.length_map, List.length_map]; omega) (ag1 nd.r) (fun i j x y hx hy => ?_)) ?_
          · have h := fl_hc (es := 1) (by omega) (ag1 nd.r) UA i j x y hx hy
            have e : fl (nd.r.map cmpsT) = (nd.r.map cmpsT).map AV.tr := by unfold fl; rw [flat_one (by intro x hx; obtain ⟨a, _, rfl⟩ := List.mem_map.1 hx; rfl)]
            rw [e] at h
            exact h
          repeat' (first|refine zS ?_|refine zR ?_|refine zE tab_ok rfl rfl ?_|refine zN ?_|(refine zG rfl rfl (fun _ => ?_) fun _ => ?_)<;>refine zE tab_ok rfl rfl ?_|(refine zC rfl (fun _ => ?_) fun _ => ?_)<;>try (rename_i h; cases h; done)|refine zB ?_|refine zK ?_|refine zZ ⟨_, rfl, ?_⟩)
          refine Sq.nilC rfl ?_
          repeat' (first|refine zS ?_|refine zR ?_|refine zE tab_ok rfl rfl ?_|refine zN ?_|(refine zG rfl rfl (fun _ => ?_) fun _ => ?_)<;>refine zE tab_ok rfl rfl ?_|(refine zC rfl (fun _ => ?_) fun _ => ?_)<;>try (rename_i h; cases h; done)|refine zB ?_|refine zK ?_|refine zZ ⟨_, rfl, ?_⟩)
          refine Sq.loadS (v := .sl (.l 2002) r.needs.length capN) tab_ok rfl hV ?_
          refine zE tab_ok rfl rfl ?_
          refine zE tab_ok rfl rfl ?_
          refine Sq.indexS (j := ((n : Nat) : Int)) (len := r.needs.length) tab_ok rfl (by omega) (by omega) ?_
          repeat' (first|refine zS ?_|refine zR ?_|refine zE tab_ok rfl rfl ?_|refine zN ?_|(refine zG rfl rfl (fun _ => ?_) fun _ => ?_)<;>refine zE tab_ok rfl rfl ?_|(refine zC rfl (fun _ => ?_) fun _ => ?_)<;>try (rename_i h; cases h; done)|refine zB ?_|refine zK ?_|refine zZ ⟨_, rfl, ?_⟩)
          refine Sq.storeS tab_ok rfl hltA ?_
          repeat' (first|refine zS ?_|refine zR ?_|refine zE tab_ok rfl rfl ?_|refine zN ?_|(refine zG rfl rfl (fun _ => ?_) fun _ => ?_)<;>refine zE tab_ok rfl rfl ?_|(refine zC rfl (fun _ => ?_) fun _ => ?_)<;>try (rename_i h; cases h; done)|refine zB ?_|refine zK ?_|refine zZ ⟨_, rfl, ?_⟩)
          exact ⟨n + 1, by omega, by omega, Sub.app (l := [_, _, _, _, _, _, _, _, _, _, _, _, _, _, _]) (H := []) ⟨rfl, rfl, rfl, rfl, rfl, rfl, rfl, rfl, rfl, rfl, congrArg (fun l => some (AV.blk 83 l)) (set_same hcA), rfl, rfl, rfl, congrArg some (wrapz (by omega) (by omega) (by omega)), trivial⟩ (fun κ v h => nomatch h)⟩
      · refine Tr.exit ?_
        refine Tr.turn (fun Γ a w h => RelX.freezeC (κ0 := .l 2001) (κ := .l 2002) (off := ((k : Nat) : Int).toNat * 6 + 5) (len := r.needs.length) (cap := capN) (es := 2) (xs := r.needs.map ndT) (cells := fl (r.needs.map ndT) ++ List.replicate pn .unk) h rfl rfl hV rfl rfl rfl (by rw [List.length_map]) (by rw [List.length_append]; omega) (ag2 r.needs) (fl_hc (by omega) (ag2 r.needs) _)) ?_
        rw [hVb]
        repeat' (first|refine zS ?_|refine zR ?_|refine zE tab_ok rfl rfl ?_|refine zN ?_|(refine zG rfl rfl (fun _ => ?_) fun _ => ?_)<;>refine zE tab_ok rfl rfl ?_|(refine zC rfl (fun _ => ?_) fun _ => ?_)<;>try (rename_i h; cases h; done)|refine zB ?_|refine zK ?_|refine zZ ⟨_, rfl, ?_⟩)
        exact ⟨k + 1, by omega, by omega, Sub.app (l := [_, _, _, _, _, _, _, _, _, _, _]) (H := []) ⟨rfl, rfl, rfl, rfl, rfl, rfl, rfl, rfl, rfl, rfl, congrArg some (wrapz (by omega) (by omega) (by omega)), trivial⟩ (fun κ v h => nomatch h)⟩
    · refine Tr.exit ?_
      refine Tr.rawC tab_ok (.l 2000) (.l 2001) (((i : Nat) : Int).toNat * 2 + 1) (s.rels.map rlsT) rfl rfl hW rfl rfl rfl rfl ?_ rfl (by rw [List.length_map]) (by rw [List.length_append, List.length_replicate, hRl, ← hpr, ← Nat.add_mul]; congr 1; omega) (ag6 s.rels) (fl_hc (by omega) (ag6 s.rels) _) ?_
      · rw [hWb]
        have hu : refsL (.l 2001) (A.set (i * 2 + 1) .unk ++ List.replicate pd AV.unk) = false := by
          rw [← set_app (by omega)]; exact refsL_set rfl (hf _)
        simp [refsM, AV.refs, delL, hu, refsL, Loc.eqb]
        try decide
      rw [hWb, hnx]
      repeat' (first|refine zS ?_|refine zR ?_|refine zE tab_ok rfl rfl ?_|refine zN ?_|(refine zG rfl rfl (fun _ => ?_) fun _ => ?_)<;>refine zE tab_ok rfl rfl ?_|(refine zC rfl (fun _ => ?_) fun _ => ?_)<;>try (rename_i h; cases h; done)|refine zB ?_|refine zK ?_|refine zZ ⟨_, rfl, ?_⟩)
      exact ⟨i + 1, by omega, by omega, Sub.app (l := [_, _, _, _, _, _, _]) (H := []) ⟨rfl, rfl, rfl, rfl, rfl, rfl, congrArg some (wrapz (by omega) (by omega) (by omega)), trivial⟩ (fun κ v h => nomatch h)⟩
  · rename_i h2
    have hge : i = c.length := by have := of_decide_eq_false h2; omega
    subst hge
    rw [gA_full]
    refine Tr.exit ?_
    repeat' (first|refine zS ?_|refine zR ?_|refine zE tab_ok rfl rfl ?_|refine zN ?_|(refine zG rfl rfl (fun _ => ?_) fun _ => ?_)<;>refine zE tab_ok rfl rfl ?_|(refine zC rfl (fun _ => ?_) fun _ => ?_)<;>try (rename_i h; cases h; done)|refine zB ?_|refine zK ?_|refine zZ ⟨_, rfl, ?_⟩)
    refine zZ ⟨_, [(.l 2000, .blk 72 (svA c (fun _ s => .raw 78 true (s.rels.map rlsT)) ++ List.replicate pd .unk))], rfl, ⟨cap, hcap, rfl, by rw [hpd]⟩, fun κ v h => ?_, fun κ h => absurd rfl h⟩
    rw [lk_cons] at h
    split at h
    · rename_i e; subst e; obtain rfl := Option.some.inj h; exact ⟨rfl, rfl⟩
    · cases h
end Go.Lg.Tryz

set_option linter.unusedVariables false
set_option linter.unusedSimpArgs false
namespace Go.Lg.Tryz
open Go Go.Proofs Go.RowKit Go.Lib Go.Lg.Sem
def bareR (r : Rls) : Rls := ⟨r.v, r.level, []⟩
def bareS (s : Svc) : Svc := ⟨s.name, s.rels.map bareR⟩
abbrev bareC (c : Ctl) : Ctl := c.map bareS
def Bare (c : Ctl) : Prop := ∀ s, s ∈ c → ∀ r, r ∈ s.rels → r.needs = []
theorem bare_bare (c : Ctl) : Bare (bareC c) := by
  intro s hs r hr
  obtain ⟨s', _, rfl⟩ := List.mem_map.1 hs
  obtain ⟨r', _, rfl⟩ := List.mem_map.1 hr
  rfl
theorem bare_ok {c : Ctl} (h : Ctl.ok c) : Ctl.ok (bareC c) := by
  refine ⟨by rw [List.length_map]; exact h.1, fun s hs => ?_⟩
  obtain ⟨s', hs', rfl⟩ := List.mem_map.1 hs
  obtain ⟨h2, h3⟩ := h.2 s' hs'
  refine ⟨by show (s'.rels.map bareR).length ≤ _; rw [List.length_map]; exact h2, fun r hr => ?_⟩
  obtain ⟨r', hr', rfl⟩ := List.mem_map.1 hr
  obtain ⟨h4, h5, h6⟩ := h3 r' hr'
  exact ⟨by show ([] : List Nd).length ≤ _; simp, h5, fun n hn => by cases hn⟩
theorem bare_lv {c : Ctl} (h : (∀ s, s ∈ c → s.rels.length ≤ 12 ∧ ∀ r, r ∈ s.rels → 0 ≤ r.level ∧ r.level ≤ 1000)) : ∀ s, s ∈ bareC c → s.rels.length ≤ 12 ∧ ∀ r, r ∈ s.rels → 0 ≤ r.level ∧ r.level ≤ 1000 := by
  intro s hs
  obtain ⟨s', hs', rfl⟩ := List.mem_map.1 hs
  obtain ⟨h2, h3⟩ := h s' hs'
  refine ⟨by show (s'.rels.map bareR).length ≤ _; rw [List.length_map]; exact h2, fun r hr => ?_⟩
  obtain ⟨r', hr', rfl⟩ := List.mem_map.1 hr
  exact h3 r' hr'
theorem bare_rel {c : Ctl} (h : Bare c) {i v : Int} {r : Rls} (hr : relAt c i v = some r) : r.needs = [] := by
  unfold relAt at hr
  split at hr
  · rename_i s hs
    split at hr
    · exact h s (List.mem_of_getElem? hs) r (List.mem_of_getElem? hr)
    · cases hr
  · cases hr
theorem vAt_eq {f : List Int} {i : Nat} {v : Int} (h : f[i]? = some v) : vAt f i = v := by unfold vAt; rw [List.getD_eq_getElem?_getD, h]; rfl
theorem bare_fits {c : Ctl} (h : Bare c) {f g : List Int} (hf : rightV c f = true) (hg : rightV c g = true) {i j : Nat} (hi : i < f.length) (hj : j < f.length) (hij : i ≠ j) : fitsB c i (vAt f i) j (vAt g j) = true := by
  obtain ⟨hfl, hfa⟩ := rightV_at hf
  obtain ⟨hgl, hga⟩ := rightV_at hg
  obtain ⟨v, s, r, e1, e2, e3, e4, e5⟩ := hfa i hi
  obtain ⟨w, s', r', d1, d2, d3, d4, d5⟩ := hga j (by omega)
  rw [vAt_eq e1, vAt_eq d1]
  unfold fitsB
  rw [e5, d5]
  have n1 := bare_rel h e5
  have n2 := bare_rel h d5
  have m1 : metB r j r'.v = true := by unfold metB; rw [n1]; rfl
  have m2 : metB r' i r.v = true := by unfold metB; rw [n2]; rfl
  show (pairB c i j && (metB r j r'.v && metB r' i r.v)) = true
  rw [m1, m2]
  unfold pairB
  simp only [Bool.and_true, Bool.and_eq_true, decide_eq_true_eq, bne_iff_ne]
  omega
theorem bare_good {c : Ctl} (hlv : (∀ s, s ∈ c → s.rels.length ≤ 12 ∧ ∀ r, r ∈ s.rels → 0 ≤ r.level ∧ r.level ≤ 1000)) (h : Bare c) {vs : List Int} (hr : rightV c vs = true) : goodB c (pls c vs) = true :=
  (good_iff hlv hr).2 fun i j hj hi => bare_fits h hr hr hi (by omega) (by omega)
theorem bare_asks {c : Ctl} (h : Bare c) (i : Nat) (j : Int) : asks c i j = false := by
  unfold asks
  split
  · rename_i s hs
    unfold asksS
    rw [List.any_eq_false]
    intro r hr
    unfold asksN
    rw [h s (List.mem_of_getElem? hs) r hr]
    simp
  · rfl
theorem bare_linked {c : Ctl} (h : Bare c) (i j : Int) : linkedC c i j = false := by
  unfold linkedC
  rw [bare_asks h, bare_asks h]; simp
theorem bare_edges {c : Ctl} (h : Bare c) : edges c = [] := by
  unfold edges edgesUp edgesRow
  rw [List.flatMap_eq_nil_iff]
  intro j _
  rw [List.map_eq_nil_iff, List.filter_eq_nil_iff]
  intro i _ e
  rw [bare_asks h] at e; cases e
theorem svcV_bare (c : Ctl) (i : Nat) : svcV (bareC c) i = svcV c i := by
  unfold svcV bareC
  rw [List.getElem?_map, ← List.map_take]
  cases c[i]? with
  | none => rfl
  | some s =>
    simp only [Option.map_some, List.any_map]
    have e1 : (bareS s).name = s.name := rfl
    have e2 : (bareS s).rels.length = s.rels.length := List.length_map ..
    rw [e1, e2]
    rfl
theorem prevB_bare (s : Svc) (k : Nat) (p : Rls → Bool) (hp : ∀ r, p (bareR r) = p r) : prevB (bareS s) k p = prevB s k p := by
  unfold prevB
  rw [show (bareS s).rels = s.rels.map bareR from rfl, List.getElem?_map]
  cases s.rels[k - 1]? with
  | none => rfl
  | some q => simp only [Option.map_some, hp]
theorem relV_bare {c : Ctl} {i k : Nat} (h : relV c i k = 0) : relV (bareC c) i k = 0 := by
  unfold relV bareC at *
  rw [List.getElem?_map]
  cases hs : c[i]? with
  | none => rfl
  | some s =>
    rw [hs] at h
    simp only [Option.map_some] at h ⊢
    rw [show (bareS s).rels = s.rels.map bareR from rfl, List.getElem?_map]
    cases hr : s.rels[k]? with
    | none => rfl
    | some r =>
      rw [hr] at h
      simp only [Option.map_some] at h ⊢
      rw [prevB_bare s k (fun q => cmpVer q.v (bareR r).v != -1) (fun r => rfl), prevB_bare s k (fun q => decide ((bareR r).level < q.level)) (fun r => rfl)]
      rw [show (bareR r).v = r.v from rfl, show (bareR r).level = r.level from rfl, show (bareR r).needs = [] from rfl]
      split at h
      · cases h
      · rename_i h1
        rw [if_neg h1]
        split at h
        · cases h
        · rename_i h2
          rw [if_neg h2]
          split at h
          · cases h
          · rename_i h3
            rw [if_neg h3, if_neg (by simp)]
            rfl
theorem bare_check {c : Ctl} {cyc : Bool} (h : (checkV c cyc).2.2 = 0) : checkV (bareC c) false = (0, 0, 0) := by
  obtain ⟨h1, h2, _, hall⟩ := right_of h
  have hl : (bareC c).length = c.length := List.length_map ..
  rw [check_none (by omega)]
  · rfl
  · intro i hi
    rw [hl] at hi
    obtain ⟨s, hs⟩ : ∃ s, c[i]? = some s := ⟨_, List.getElem?_eq_getElem hi⟩
    have hE := hall i hi
    have hv : svcV c i = 0 := by
      apply Classical.byContradiction
      intro hv
      rw [svcE_svc hv] at hE
      exact hv hE
    have hrl : relsLen c i = s.rels.length := by unfold relsLen; rw [hs]
    have hr0 : ∀ k, k < s.rels.length → relV c i k = 0 := by
      intro k
      induction k using Nat.strongRecOn with
      | _ k ih =>
        intro hk
        apply Classical.byContradiction
        intro hne
        rw [svcE_rel hv (by rw [hrl]; exact hk) (fun j hj => ih j hj (by omega)) hne] at hE
        exact hne hE
    have hrl2 : relsLen (bareC c) i = s.rels.length := by
      unfold relsLen bareC
      rw [List.getElem?_map, hs]
      exact List.length_map ..
    rw [svcE_none (by rw [svcV_bare]; exact hv) (fun k hk => relV_bare (hr0 k (by rw [← hrl2]; exact hk)))]
theorem bare_acyc {c : Ctl} (h : Bare c) (n : Nat) : false = true ↔ CycP n (edges c) := by
  rw [bare_edges h]
  constructor
  · intro h; cases h
  · rintro ⟨a, _, hw⟩
    have no : ∀ {a b : Nat}, ¬ EdgeWay [] a b := by
      intro a b h
      cases h with
      | one e => cases e
      | snoc _ e => cases e
    exact absurd hw no
end Go.Lg.Tryz

set_option linter.unusedVariables false
set_option linter.unusedSimpArgs false
namespace Go.Lg
open Go Go.RowKit
section
variable {P : Program} {G : Env} {n : Nat} {tab : Tab} {m : Store}
def evFieldV (n : Nat) (ops : List Oper) (o : Oper) (m : Store) : Option (TypeId × Nat × List T × Nat) := match o.op, o.dst, gOk m ops o.guard with
  | .field t x f, some d, true => match Nat.blt d n, opV m x with
    | true, some (.tr (.ag ts)) => some (t, f, ts, d)
    | _, _ => none
  | _, _, _ => none
theorem Sq.fieldV {ops l : List Oper} {o : Oper} {t : TypeId} {f d : Nat} {ts : List T} {y : T} {fs : Array Field} {fd : Field} {ds : TypeDesc} {K : Store → Prop} (h : evFieldV n ops o m = some (t, f, ts, d)) (hu : P.underlying t = some (.struct fs)) (hfd : fs[f]? = some fd) (hy : ts[fd.offset]? = some y)
    (hu2 : P.underlying fd.type = some ds) (hag : dsAgg ds = false) (k : Sq P G n ops l ((.s d, .tr y) :: m) K) : Sq P G n ops (o :: l) m K := by
  obtain ⟨dst, op, type, pos, after, guard⟩ := o
  unfold evFieldV at h
  simp only at h
  split at h
  · rename_i t' x f' d' hgd
    split at h
    · rename_i ts' hlt hx
      simp only [Option.some.injEq, Prod.mk.injEq] at h
      obtain ⟨rfl, rfl, rfl, rfl⟩ := h
      refine Sq.do hgd (fun Γ M Ow a w hr => ?_) k
      obtain ⟨q, hq⟩ := opV_ok hx hr
      have hq : VRel w M (fun κ => Ow κ 0) (.tr (.ag ts')) (a.eval x) := hq
      obtain ⟨cs, ev, h1, h3⟩ : ∃ cs : Array Value, a.eval x = .agg cs ∧ cs.size = ts'.length ∧ ∀ (i : Nat) (y : T) (v : Value), ts'[i]? = some y → cs[i]? = some v → Rep w M y v := by
        generalize a.eval x = q at hq
        cases hq with
        | tr _ _ hr =>
          cases hr with
          | ag _ cs h1 h2 h3 => exact ⟨cs, rfl, h1, h3⟩
      have hlt2 : fd.offset < cs.size := by rw [h1]; exact (List.getElem?_eq_some_iff.1 hy).1
      have hc : cs[fd.offset]? = some cs[fd.offset] := by simp [hlt2]
      refine ⟨cs[fd.offset], w, ?_, M, Ow, hr.put (Nat.lt_of_succ_le (Nat.le_of_ble_eq_true hlt)) (.tr _ _ (h3 _ _ _ hy hc))⟩
      have hagg := run_isAgg hu2 w
      rw [hag] at hagg
      have hp : (Go.part fd.type cs fd.offset).run P w = .ok cs[fd.offset] w := by
        simp only [Go.part, Sem.run_bind, hagg]
        simp [hc]
      have hf : (Instr.field t' (.agg cs) f').run P w = .ok cs[fd.offset] w := by
        simp only [Instr.field, Sem.run_bind, run_underlying hu]
        simp [hfd, asAgg, hp]
      simp only [execOp, ev, Sem.run_bind, hf]
      rfl
    · cases h
  · cases h
end
end Go.Lg

set_option linter.unusedVariables false
set_option linter.unusedSimpArgs false
namespace Go.Lg.Tryz
open Go Go.Proofs Go.RowKit Go.Lib Go.Lg.Sem
theorem fl_ext {es : Nat} (hpos : 0 < es) {xs ys : List T} (hx : ∀ x, x ∈ xs → x.cells.length = es) (hy : ∀ x, x ∈ ys → x.cells.length = es) {L : List AV} (hl : L.length = ys.length * es)
    (h : ∀ k j y z, ys[k]? = some y → y.cells[j]? = some z → L[k * es + j]? = some (.tr z)) : L = fl ys := by
  apply List.ext_getElem?
  intro i
  by_cases hi : i < ys.length * es
  · have hk : i / es < ys.length := Nat.div_lt_of_lt_mul (by rw [Nat.mul_comm]; exact hi)
    obtain ⟨y, hyk⟩ : ∃ y, ys[i / es]? = some y := ⟨_, List.getElem?_eq_getElem hk⟩
    have hyl := hy y (List.mem_of_getElem? hyk)
    have hjl : i % es < y.cells.length := by rw [hyl]; exact Nat.mod_lt _ hpos
    obtain ⟨z, hz⟩ : ∃ z, y.cells[i % es]? = some z := ⟨_, List.getElem?_eq_getElem hjl⟩
    have e1 := h _ _ _ _ hyk hz
    have e2 := fl_at hpos hy hyk hz
    have e : i / es * es + i % es = i := by rw [Nat.mul_comm]; exact Nat.div_add_mod i es
    rw [e] at e1 e2
    rw [e1, e2]
  · rw [List.getElem?_eq_none (by omega), List.getElem?_eq_none (by rw [fl_len hpos hy]; omega)]
theorem fl_set {es : Nat} (hpos : 0 < es) {xs : List T} (hx : ∀ x, x ∈ xs → x.cells.length = es) {k j : Nat} {x x' : T} {y : T} (hk : xs[k]? = some x) (hc : x'.cells = x.cells.set j y) (hj : j < es) : (fl xs).set (k * es + j) (.tr y) = fl (xs.set k x') := by
  have hkl := (List.getElem?_eq_some_iff.1 hk).1
  have hxl := hx x (List.mem_of_getElem? hk)
  have hx' : ∀ z, z ∈ xs.set k x' → z.cells.length = es := by
    intro z hz
    rcases List.mem_or_eq_of_mem_set hz with h | h
    · exact hx z h
    · subst h; rw [hc, List.length_set]; exact hxl
  refine fl_ext (es := es) hpos hx hx' (by rw [List.length_set, fl_len hpos hx, List.length_set]) ?_
  intro i m u z hu hz
  have hml : m < es := by rw [← hx' u (List.mem_of_getElem? hu)]; exact (List.getElem?_eq_some_iff.1 hz).1
  by_cases e : i = k
  · subst e
    rw [List.getElem?_set_self hkl] at hu
    obtain rfl := Option.some.inj hu
    rw [hc] at hz
    by_cases e2 : m = j
    · subst e2
      rw [List.getElem?_set_self (by omega)] at hz
      obtain rfl := Option.some.inj hz
      have hb : i * es + m < (fl xs).length := by
        rw [fl_len hpos hx]
        have : (i + 1) * es ≤ xs.length * es := Nat.mul_le_mul_right _ (by omega)
        rw [Nat.succ_mul] at this; omega
      rw [List.getElem?_set_self hb]
    · rw [List.getElem?_set_ne (fun h => e2 h.symm)] at hz
      rw [List.getElem?_set_ne (by omega)]
      exact fl_at hpos hx hk hz
  · rw [List.getElem?_set_ne (fun h => e h.symm)] at hu
    rw [List.getElem?_set_ne]
    · exact fl_at hpos hx hu hz
    · intro h
      apply e
      have h1 : (k * es + j) / es = k := by rw [Nat.mul_comm, Nat.mul_add_div hpos, Nat.div_eq_of_lt hj]; omega
      have h2 : (i * es + m) / es = i := by rw [Nat.mul_comm, Nat.mul_add_div hpos, Nat.div_eq_of_lt hml]; omega
      rw [← h1, ← h2, h]
def relB (l : List Rls) (b : Nat) : List Rls := (l.take b).map bareR ++ l.drop b
theorem relB_len (l : List Rls) (b : Nat) : (relB l b).length = l.length := by unfold relB; simp; omega
theorem relB_zero (l : List Rls) : relB l 0 = l := by unfold relB; simp
theorem relB_full (l : List Rls) : relB l l.length = l.map bareR := by unfold relB; simp
theorem relB_at {l : List Rls} {b : Nat} {r : Rls} (h : l[b]? = some r) : (relB l b)[b]? = some r := by
  have hb := (List.getElem?_eq_some_iff.1 h).1
  unfold relB
  rw [List.getElem?_append_right (by simp; omega), List.getElem?_drop]
  simp only [List.length_map, List.length_take]
  rw [show b + (b - min b l.length) = b by omega]; exact h
theorem relB_succ {l : List Rls} {b : Nat} {r : Rls} (h : l[b]? = some r) : relB l (b + 1) = (relB l b).set b (bareR r) := by
  have hb := (List.getElem?_eq_some_iff.1 h).1
  apply List.ext_getElem?
  intro k
  rw [List.getElem?_set]
  unfold relB
  by_cases e : b = k
  · subst e
    rw [if_pos rfl, if_pos (by simp; omega), List.getElem?_append_left (by simp; omega), List.getElem?_map, List.getElem?_take_of_lt (by omega), h]; rfl
  · rw [if_neg e]
    rcases Nat.lt_or_ge k b with h2 | h2
    · rw [List.getElem?_append_left (by simp; omega), List.getElem?_append_left (by simp; omega), List.getElem?_map, List.getElem?_map, List.getElem?_take_of_lt (by omega), List.getElem?_take_of_lt (by omega)]
    · rw [List.getElem?_append_right (by simp; omega), List.getElem?_append_right (by simp; omega), List.getElem?_drop, List.getElem?_drop]
      simp only [List.length_map, List.length_take]
      rw [show b + 1 + (k - min (b + 1) l.length) = k by omega, show b + (k - min b l.length) = k by omega]
def gB (a k : Nat) (s : Svc) : AV := if k < a then .tr (.ls ((s.rels.map bareR).map rlsT)) else .raw 78 true (s.rels.map rlsT)
theorem gB_refs (κ : Loc) (i k : Nat) (s : Svc) : (gB i k s).refs κ = false := by unfold gB; split <;> rfl
theorem gB_zero (c : Ctl) : svA c (gB 0) = svA c (fun _ s => .raw 78 true (s.rels.map rlsT)) := svA_congr fun k s _ => by unfold gB; rw [if_neg (by omega)]
theorem gB_full (c : Ctl) : svA c (gB c.length) = fl ((bareC c).map svcT) := by
  rw [svA_fl]
  have : svA c (gB c.length) = svA c (fun _ s => .tr (.ls ((bareS s).rels.map rlsT))) := svA_congr fun k s h => by unfold gB; rw [if_pos (List.getElem?_eq_some_iff.1 h).1]; rfl
  rw [this]
  unfold svA bareC
  rw [List.length_map]
  refine List.map_congr_left fun k _ => ?_
  rw [List.getElem?_map]
  cases c[k / 2]? <;> rfl
theorem gB_succ {c : Ctl} {i : Nat} {s : Svc} (h : c[i]? = some s) : (svA c (gB i)).set (i * 2 + 1) (.tr (.ls ((s.rels.map bareR).map rlsT))) = svA c (gB (i + 1)) := by
  rw [svA_set (List.getElem?_eq_some_iff.1 h).1]
  refine svA_congr fun k s' h' => ?_
  by_cases e : k = i
  · subst e
    obtain rfl := Option.some.inj (h.symm.trans h')
    rw [if_pos rfl]; unfold gB; rw [if_pos (by omega)]
  · rw [if_neg e]; unfold gB
    by_cases e2 : k < i
    · rw [if_pos e2, if_pos (by omega)]
    · rw [if_neg e2, if_neg (by omega)]
theorem svcE_rels {c : Ctl} {cyc : Bool} (h : (checkV c cyc).2.2 = 0) : ∀ s, s ∈ c → 1 ≤ s.rels.length := by
  obtain ⟨_, _, _, hall⟩ := right_of h
  intro s hs
  obtain ⟨i, hi⟩ := List.mem_iff_getElem?.1 hs
  have hE := hall i (List.getElem?_eq_some_iff.1 hi).1
  have hv : svcV c i = 0 := by
    apply Classical.byContradiction
    intro hv
    rw [svcE_svc hv] at hE
    exact hv hE
  unfold svcV at hv
  rw [hi] at hv
  simp only at hv
  split at hv
  · omega
  · split at hv
    · omega
    · split at hv
      · omega
      · omega
theorem ag2s (l : Ctl) : ∀ x, x ∈ l.map svcT → x.cells.length = 2 := by intro x hx; obtain ⟨a, _, rfl⟩ := List.mem_map.1 hx; rfl
set_option maxRecDepth 8192 in
set_option maxHeartbeats 3200000 in
theorem CatalogBare_ok (c : Ctl) (vs : List Int) (x y : Int) : Fn Tryz.prog Gw 9 [.tr (ctlT c), .tr (.ls (vs.map intT)), int x, int y] [] (· = bool true) := by
  obtain ⟨cyc, hc⟩ := cyc_ex c
  have hA := anchor_ok
  have hM := catRight_ok c hc
  refine Fn.of tab_ok Tryz.func9 rfl (by decide) (by simp [Tryz.f9]) rfl (fun κ v h => by cases h) Gw.below ?_
  repeat' (first|refine zS ?_|refine zR ?_|refine zE tab_ok rfl rfl ?_|refine zN ?_|(refine zG rfl rfl (fun _ => ?_) fun _ => ?_)<;>refine zE tab_ok rfl rfl ?_|(refine zC rfl (fun _ => ?_) fun _ => ?_)<;>try (rename_i h; cases h; done)|refine zB ?_|refine zK ?_|refine zZ ⟨_, rfl, ?_⟩)
  refine Sq.callv rfl (hA) ?_
  repeat' (first|refine zS ?_|refine zR ?_|refine zE tab_ok rfl rfl ?_|refine zN ?_|(refine zG rfl rfl (fun _ => ?_) fun _ => ?_)<;>refine zE tab_ok rfl rfl ?_|(refine zC rfl (fun _ => ?_) fun _ => ?_)<;>try (rename_i h; cases h; done)|refine zB ?_|refine zK ?_|refine zZ ⟨_, rfl, ?_⟩)
  refine zL rfl hM ?_
  rintro _ ⟨q, rfl, hq⟩
  cases hs : smallC c && ((checkV c cyc).2.2 == 0)
  · repeat' (first|refine zS ?_|refine zR ?_|refine zE tab_ok rfl rfl ?_|refine zN ?_|(refine zG rfl rfl (fun _ => ?_) fun _ => ?_)<;>refine zE tab_ok rfl rfl ?_|(refine zC rfl (fun _ => ?_) fun _ => ?_)<;>try (rename_i h; cases h; done)|refine zB ?_|refine zK ?_|refine zZ ⟨_, rfl, ?_⟩)
    rfl
  have e := hq hs
  subst e
  rw [Bool.and_eq_true, beq_iff_eq] at hs
  obtain ⟨hs, hv⟩ := hs
  obtain ⟨hc1, hc2, hcy, _⟩ := right_of hv
  have hr1 := svcE_rels hv
  have hlv := levels_of hv
  have hok := bare_ok (ctl_ok hs)
  have hlvB := bare_lv hlv
  have hB := bare_bare q
  have hcB : (bareC q).length = q.length := List.length_map ..
  have hck := bare_check hv
  have hnm : ∀ s, s ∈ bareC q → s.name.size ≤ 1000000000 := fun s hs' => by
    obtain ⟨s', h', rfl⟩ := List.mem_map.1 hs'
    have := (Svc.of_small ((smallC_of hs).2 s' h')).1
    exact Nat.le_trans this (by omega)
  have hCk := catCheck_ok hok hnm (bare_acyc hB _)
  rw [hck] at hCk
  have hCk : Fn Tryz.prog Gw 12 [.tr (ctlT (bareC q))] [] (· = .tup [int 0, int 0, int 0]) := hCk
  have hLk := Linked_ok hok x y
  rw [bare_linked hB] at hLk
  have hGr := Graph_ok hok (by omega)
  rw [bare_edges hB] at hGr
  have hSt := Settled_ok (by omega) hlvB vs
  have hGd : rightV (bareC q) vs = true → Fn Tryz.prog Gw 26 [.tr (ctlT (bareC q)), .tr (.ls ((pls (bareC q) vs).map plT))] [] (· = bool true) := fun hr => by
    have := Good_ok hok (fun s hs => (hlvB s hs).2) (by omega) (pls (bareC q) vs) (pls_ok hr hlvB)
    rw [bare_good hlvB hB hr] at this
    exact this
  repeat' (first|refine zS ?_|refine zR ?_|refine zE tab_ok rfl rfl ?_|refine zN ?_|(refine zG rfl rfl (fun _ => ?_) fun _ => ?_)<;>refine zE tab_ok rfl rfl ?_|(refine zC rfl (fun _ => ?_) fun _ => ?_)<;>try (rename_i h; cases h; done)|refine zB ?_|refine zK ?_|refine zZ ⟨_, rfl, ?_⟩)
  · rfl
  refine Sq.callN (H := []) rfl (fun κ v h => nomatch h) (fun κ ty cells h => nomatch h) (fun x hx κ hr => ?_) (catClone_ok q hs hc1 hr1) (fun r N h => ?_) ?_
  · have hx := List.mem_singleton.1 hx; subst hx; cases hr
  · obtain ⟨cap, hcap, rfl, rfl⟩ := h
    refine ⟨⟨rfl, fun κ hr => ?_⟩, fun κ v h => ?_, fun κ ty cells h x hx κ' hr => ?_⟩
    · cases hr with
      | agg _ x hx h =>
        have hx := List.mem_singleton.1 hx; subst hx
        cases h; rw [lk_self]; simp
    · rw [lk_cons] at h
      split at h
      · rename_i e; subst e; exact .inr rfl
      · cases h
    · exfalso
      rw [lk_cons] at h
      split at h
      · rename_i e
        have h := Option.some.inj h
        injection h with h1 h2
        subst h2
        have := refsL_mem hx (refs_of hr)
        rw [svA_refs (fun k s _ => rfl)] at this
        cases this
      · cases h
  rintro r N ⟨cap, hcap, rfl, rfl⟩
  generalize hpd : (cap - q.length) * 2 = pd
  rw [← gB_zero]
  have hf0 := fun κ => svA_refs (κ := κ) (c := q) (g := gB 0) (fun k s _ => gB_refs κ 0 k s) pd
  refine zE tab_ok rfl (by simp [-List.map_map, freshB, pinB, refsM, AV.refs, hf0, refsL, Loc.eqb, putO, entryS, ctlArg]; try decide) ?_
  repeat' (first|refine zS ?_|refine zR ?_|refine zE tab_ok rfl rfl ?_|refine zN ?_|(refine zG rfl rfl (fun _ => ?_) fun _ => ?_)<;>refine zE tab_ok rfl rfl ?_|(refine zC rfl (fun _ => ?_) fun _ => ?_)<;>try (rename_i h; cases h; done)|refine zB ?_|refine zK ?_|refine zZ ⟨_, rfl, ?_⟩)
  refine Sq.lenS tab_ok rfl ?_
  repeat' (first|refine zS ?_|refine zR ?_|refine zE tab_ok rfl rfl ?_|refine zN ?_|(refine zG rfl rfl (fun _ => ?_) fun _ => ?_)<;>refine zE tab_ok rfl rfl ?_|(refine zC rfl (fun _ => ?_) fun _ => ?_)<;>try (rename_i h; cases h; done)|refine zB ?_|refine zK ?_|refine zZ ⟨_, rfl, ?_⟩)
  refine Tr.loopS (fun a : Nat => [(.s 1, .tr (.ls (vs.map intT))), (.s 2, int x), (.s 3, int y), (.s 11, .ptr (.l 11) 0), (.l 11, .blk 24 [.sl (.l 2000) q.length cap]), (.l 2000, .blk 72 (svA q (gB a) ++ List.replicate pd .unk)), (.s 37, int q.length), (.s 38, int a)]) (fun a => q.length - a) (fun a => a ≤ q.length)
    0 (by omega) (Sub.app (l := [_, _, _, _, _, _, _, _]) (H := []) ⟨rfl, rfl, rfl, rfl, rfl, rfl, rfl, rfl, trivial⟩ (fun κ v h => nomatch h)) ?_
  rintro a ha
  rcases Nat.lt_or_ge a q.length with hlt | hge
  · obtain ⟨s, hsa⟩ : ∃ s, q[a]? = some s := ⟨_, List.getElem?_eq_getElem hlt⟩
    have hrl := (hlv s (List.mem_of_getElem? hsa)).1
    have hr1' := hr1 s (List.mem_of_getElem? hsa)
    have hne : s.rels.map rlsT ≠ [] := by intro h; rw [List.map_eq_nil_iff] at h; rw [h] at hr1'; simp at hr1'
    have hcl : (svA q (gB a))[a * 2 + 1]? = some (.raw 78 true (s.rels.map rlsT)) := by rw [svA_at1 hsa]; unfold gB; rw [if_neg (by omega)]
    have hsl := svA_len q (gB a)
    have hnx := gB_succ hsa
    have hf := fun κ => svA_refs (κ := κ) (c := q) (g := gB a) (fun k s _ => gB_refs κ a k s) pd
    generalize svA q (gB a) = A at *
    have hcell : (A ++ List.replicate pd AV.unk)[a * 2 + 1]? = some (.raw 78 true (s.rels.map rlsT)) := by rw [List.getElem?_append_left (by omega)]; exact hcl
    refine Tr.thawC tab_ok (.l 2000) (.l 2001) (a * 2 + 1) rfl rfl hcell hne rfl (by decide) rfl rfl (by simp [-List.map_map, freshB, pinB, refsM, AV.refs, hf, refsL, Loc.eqb]; try decide) ?_
    intro capR hcapR
    rw [List.length_map] at hcapR ⊢
    rw [show ((s.rels.map rlsT).flatMap T.cells).map AV.tr = fl (s.rels.map rlsT) from rfl]
    generalize hpr : (capR - s.rels.length) * 6 = pr
    have hW : ((A ++ List.replicate pd AV.unk).set (a * 2 + 1) (AV.sl (.l 2001) s.rels.length capR))[((a : Nat) : Int).toNat * 2 + 1]? = some (.sl (.l 2001) s.rels.length capR) := by
      rw [Int.toNat_natCast, List.getElem?_set_self (by rw [List.length_append]; omega)]
    have hWb : ∀ v, ((A ++ List.replicate pd AV.unk).set (a * 2 + 1) (AV.sl (.l 2001) s.rels.length capR)).set (a * 2 + 1) v = A.set (a * 2 + 1) v ++ List.replicate pd AV.unk := fun v => by rw [List.set_set, set_app (by omega)]
    generalize (A ++ List.replicate pd AV.unk).set (a * 2 + 1) (AV.sl (.l 2001) s.rels.length capR) = W at *
    repeat' (first|refine zS ?_|refine zR ?_|refine zE tab_ok rfl rfl ?_|refine zN ?_|(refine zG rfl rfl (fun _ => ?_) fun _ => ?_)<;>refine zE tab_ok rfl rfl ?_|(refine zC rfl (fun _ => ?_) fun _ => ?_)<;>try (rename_i h; cases h; done)|refine zB ?_|refine zK ?_|refine zZ ⟨_, rfl, ?_⟩)
    · refine Sq.indexS (j := ((a : Nat) : Int)) (len := q.length) tab_ok rfl (by omega) (by omega) ?_
      repeat' (first|refine zS ?_|refine zR ?_|refine zE tab_ok rfl rfl ?_|refine zN ?_|(refine zG rfl rfl (fun _ => ?_) fun _ => ?_)<;>refine zE tab_ok rfl rfl ?_|(refine zC rfl (fun _ => ?_) fun _ => ?_)<;>try (rename_i h; cases h; done)|refine zB ?_|refine zK ?_|refine zZ ⟨_, rfl, ?_⟩)
      refine Sq.loadS (v := .sl (.l 2001) s.rels.length capR) tab_ok rfl hW ?_
      refine Sq.lenS tab_ok rfl ?_
      repeat' (first|refine zS ?_|refine zR ?_|refine zE tab_ok rfl rfl ?_|refine zN ?_|(refine zG rfl rfl (fun _ => ?_) fun _ => ?_)<;>refine zE tab_ok rfl rfl ?_|(refine zC rfl (fun _ => ?_) fun _ => ?_)<;>try (rename_i h; cases h; done)|refine zB ?_|refine zK ?_|refine zZ ⟨_, rfl, ?_⟩)
      refine Tr.loopS (fun b : Nat => [(.s 1, .tr (.ls (vs.map intT))), (.s 2, int x), (.s 3, int y), (.s 11, .ptr (.l 11) 0), (.l 11, .blk 24 [.sl (.l 2000) q.length cap]), (.l 2000, .blk 72 W), (.s 37, int q.length), (.s 38, int a), (.s 12, int a), (.l 2001, .blk 78 (fl ((relB s.rels b).map rlsT) ++ List.replicate pr .unk)), (.s 47, int s.rels.length), (.s 48, int b)]) (fun b => s.rels.length - b) (fun b => b ≤ s.rels.length)
        0 (by omega) (Sub.app (l := [_, _, _, _, _, _, _, _, _, _, _, _]) (H := []) ⟨rfl, rfl, rfl, rfl, rfl, rfl, rfl, rfl, rfl, by rw [relB_zero]; rfl, rfl, rfl, trivial⟩ (fun κ v h => nomatch h)) ?_
      rintro b hb
      have hRl := fl_len (es := 6) (by omega) (ag6 (relB s.rels b))
      rw [List.length_map, relB_len] at hRl
      repeat' (first|refine zS ?_|refine zR ?_|refine zE tab_ok rfl rfl ?_|refine zN ?_|(refine zG rfl rfl (fun _ => ?_) fun _ => ?_)<;>refine zE tab_ok rfl rfl ?_|(refine zC rfl (fun _ => ?_) fun _ => ?_)<;>try (rename_i h; cases h; done)|refine zB ?_|refine zK ?_|refine zZ ⟨_, rfl, ?_⟩)
      · rename_i h3
        have hlb : b < s.rels.length := by have := of_decide_eq_true h3; omega
        obtain ⟨r, hrb⟩ : ∃ r, s.rels[b]? = some r := ⟨_, List.getElem?_eq_getElem hlb⟩
        have hat : ((relB s.rels b).map rlsT)[b]? = some (rlsT r) := by rw [List.getElem?_map, relB_at hrb]; rfl
        have hset := fl_set (es := 6) (by omega) (ag6 (relB s.rels b)) (x' := rlsT (bareR r)) (j := 5) (y := .ls []) hat rfl (by omega)
        have hset : (fl ((relB s.rels b).map rlsT)).set (b * 6 + 5) (.tr (.ls [])) = fl ((relB s.rels (b + 1)).map rlsT) := by rw [hset, relB_succ hrb, List.map_set]
        generalize fl ((relB s.rels b).map rlsT) = RC at *
        refine Sq.indexS (j := ((a : Nat) : Int)) (len := q.length) tab_ok rfl (by omega) (by omega) ?_
        repeat' (first|refine zS ?_|refine zR ?_|refine zE tab_ok rfl rfl ?_|refine zN ?_|(refine zG rfl rfl (fun _ => ?_) fun _ => ?_)<;>refine zE tab_ok rfl rfl ?_|(refine zC rfl (fun _ => ?_) fun _ => ?_)<;>try (rename_i h; cases h; done)|refine zB ?_|refine zK ?_|refine zZ ⟨_, rfl, ?_⟩)
        refine Sq.loadS (v := .sl (.l 2001) s.rels.length capR) tab_ok rfl hW ?_
        refine zE tab_ok rfl rfl ?_
        refine Sq.indexS (j := ((b : Nat) : Int)) (len := s.rels.length) tab_ok rfl (by omega) (by omega) ?_
        repeat' (first|refine zS ?_|refine zR ?_|refine zE tab_ok rfl rfl ?_|refine zN ?_|(refine zG rfl rfl (fun _ => ?_) fun _ => ?_)<;>refine zE tab_ok rfl rfl ?_|(refine zC rfl (fun _ => ?_) fun _ => ?_)<;>try (rename_i h; cases h; done)|refine zB ?_|refine zK ?_|refine zZ ⟨_, rfl, ?_⟩)
        refine Sq.storeS tab_ok rfl (by show ((b : Nat) : Int).toNat * 6 + 5 < _; rw [List.length_append]; omega) ?_
        repeat' (first|refine zS ?_|refine zR ?_|refine zE tab_ok rfl rfl ?_|refine zN ?_|(refine zG rfl rfl (fun _ => ?_) fun _ => ?_)<;>refine zE tab_ok rfl rfl ?_|(refine zC rfl (fun _ => ?_) fun _ => ?_)<;>try (rename_i h; cases h; done)|refine zB ?_|refine zK ?_|refine zZ ⟨_, rfl, ?_⟩)
        exact ⟨b + 1, by omega, by omega, Sub.app (l := [_, _, _, _, _, _, _, _, _, _, _, _]) (H := []) ⟨rfl, rfl, rfl, rfl, rfl, rfl, rfl, rfl, rfl, by rw [← hset, ← set_app (by omega)]; rfl, rfl, congrArg some (wrapz (by omega) (by omega) (by omega)), trivial⟩ (fun κ v h => nomatch h)⟩
      · rename_i h3
        have hge : b = s.rels.length := by have := of_decide_eq_false h3; omega
        subst hge
        rw [relB_full]
        refine Tr.exit ?_
        refine Tr.turn (fun Γ a' w h => RelX.freezeC (κ0 := .l 2000) (κ := .l 2001) (off := a * 2 + 1) (len := s.rels.length) (cap := capR) (es := 6) (xs := (s.rels.map bareR).map rlsT) (cells := fl ((s.rels.map bareR).map rlsT) ++ List.replicate pr .unk) h rfl rfl (by rw [Int.toNat_natCast] at hW; exact hW) rfl rfl rfl (by rw [List.length_map, List.length_map]) (by rw [List.length_append, fl_len (es := 6) (by omega) (ag6 _), List.length_map, List.length_map]; omega) (ag6 _) (fl_hc (by omega) (ag6 _) _)) ?_
        rw [hWb, hnx]
        repeat' (first|refine zS ?_|refine zR ?_|refine zE tab_ok rfl rfl ?_|refine zN ?_|(refine zG rfl rfl (fun _ => ?_) fun _ => ?_)<;>refine zE tab_ok rfl rfl ?_|(refine zC rfl (fun _ => ?_) fun _ => ?_)<;>try (rename_i h; cases h; done)|refine zB ?_|refine zK ?_|refine zZ ⟨_, rfl, ?_⟩)
        exact ⟨a + 1, by omega, by omega, Sub.app (l := [_, _, _, _, _, _, _, _]) (H := []) ⟨rfl, rfl, rfl, rfl, rfl, rfl, rfl, congrArg some (wrapz (by omega) (by omega) (by omega)), trivial⟩ (fun κ v h => nomatch h)⟩
    · exfalso
      rename_i h3
      have := of_decide_eq_false h3
      omega
  have hge : a = q.length := by omega
  subst hge
  repeat' (first|refine zS ?_|refine zR ?_|refine zE tab_ok rfl rfl ?_|refine zN ?_|(refine zG rfl rfl (fun _ => ?_) fun _ => ?_)<;>refine zE tab_ok rfl rfl ?_|(refine zC rfl (fun _ => ?_) fun _ => ?_)<;>try (rename_i h; cases h; done)|refine zB ?_|refine zK ?_|refine zZ ⟨_, rfl, ?_⟩)
  · exfalso
    rename_i h3
    have := of_decide_eq_true h3
    omega
  rw [gB_full]
  refine Tr.exit ?_
  refine Tr.turn (fun Γ a' w h => RelX.freezeC (κ0 := .l 11) (κ := .l 2000) (off := 0) (len := q.length) (cap := cap) (es := 2) (xs := (bareC q).map svcT) (cells := fl ((bareC q).map svcT) ++ List.replicate pd .unk) h rfl rfl rfl rfl rfl rfl (by rw [List.length_map, hcB]) (by rw [List.length_append, fl_len (es := 2) (by omega) (ag2s _), List.length_map, hcB]; omega) (ag2s _) (fl_hc (by omega) (ag2s _) _)) ?_
  generalize bareC q = q at *
  repeat' (first|refine zS ?_|refine zR ?_|refine zE tab_ok rfl rfl ?_|refine zN ?_|(refine zG rfl rfl (fun _ => ?_) fun _ => ?_)<;>refine zE tab_ok rfl rfl ?_|(refine zC rfl (fun _ => ?_) fun _ => ?_)<;>try (rename_i h; cases h; done)|refine zB ?_|refine zK ?_|refine zZ ⟨_, rfl, ?_⟩)
  refine Sq.callv rfl (hCk) ?_
  repeat' (first|refine zS ?_|refine zR ?_|refine zE tab_ok rfl rfl ?_|refine zN ?_|(refine zG rfl rfl (fun _ => ?_) fun _ => ?_)<;>refine zE tab_ok rfl rfl ?_|(refine zC rfl (fun _ => ?_) fun _ => ?_)<;>try (rename_i h; cases h; done)|refine zB ?_|refine zK ?_|refine zZ ⟨_, rfl, ?_⟩)
  refine Sq.callv rfl (hLk) ?_
  repeat' (first|refine zS ?_|refine zR ?_|refine zE tab_ok rfl rfl ?_|refine zN ?_|(refine zG rfl rfl (fun _ => ?_) fun _ => ?_)<;>refine zE tab_ok rfl rfl ?_|(refine zC rfl (fun _ => ?_) fun _ => ?_)<;>try (rename_i h; cases h; done)|refine zB ?_|refine zK ?_|refine zZ ⟨_, rfl, ?_⟩)
  refine Sq.callv rfl (hGr) ?_
  refine Sq.fieldV rfl Tryz.underlying39 rfl rfl Tryz.underlying37 rfl ?_
  repeat' (first|refine zS ?_|refine zR ?_|refine zE tab_ok rfl rfl ?_|refine zN ?_|(refine zG rfl rfl (fun _ => ?_) fun _ => ?_)<;>refine zE tab_ok rfl rfl ?_|(refine zC rfl (fun _ => ?_) fun _ => ?_)<;>try (rename_i h; cases h; done)|refine zB ?_|refine zK ?_|refine zZ ⟨_, rfl, ?_⟩)
  cases hr : rightV q vs
  · have hA2 : settledA q vs = .tup [.tr (.ls []), int 42] := by unfold settledA; rw [hr]; rfl
    rw [hA2] at hSt
    refine Sq.callv rfl (hSt) ?_
    repeat' (first|refine zS ?_|refine zR ?_|refine zE tab_ok rfl rfl ?_|refine zN ?_|(refine zG rfl rfl (fun _ => ?_) fun _ => ?_)<;>refine zE tab_ok rfl rfl ?_|(refine zC rfl (fun _ => ?_) fun _ => ?_)<;>try (rename_i h; cases h; done)|refine zB ?_|refine zK ?_|refine zZ ⟨_, rfl, ?_⟩)
    rfl
  have hA2 : settledA q vs = .tup [.tr (.ls ((pls q vs).map plT)), int 0] := by unfold settledA; rw [hr, pls_t]; rfl
  rw [hA2] at hSt
  have hGd := hGd hr
  generalize (pls q vs).map plT = PL at *
  refine Sq.callv rfl (hSt) ?_
  repeat' (first|refine zS ?_|refine zR ?_|refine zE tab_ok rfl rfl ?_|refine zN ?_|(refine zG rfl rfl (fun _ => ?_) fun _ => ?_)<;>refine zE tab_ok rfl rfl ?_|(refine zC rfl (fun _ => ?_) fun _ => ?_)<;>try (rename_i h; cases h; done)|refine zB ?_|refine zK ?_|refine zZ ⟨_, rfl, ?_⟩)
  refine Sq.callv rfl (hGd) ?_
  repeat' (first|refine zS ?_|refine zR ?_|refine zE tab_ok rfl rfl ?_|refine zN ?_|(refine zG rfl rfl (fun _ => ?_) fun _ => ?_)<;>refine zE tab_ok rfl rfl ?_|(refine zC rfl (fun _ => ?_) fun _ => ?_)<;>try (rename_i h; cases h; done)|refine zB ?_|refine zK ?_|refine zZ ⟨_, rfl, ?_⟩)
  rfl
end Go.Lg.Tryz

set_option linter.unusedSimpArgs false
set_option linter.unusedVariables false
namespace Go.Lg.Tryz
open Go Go.Proofs Go.Proofs.YtdjdfdfelcnpmaaGreatDoor Go.ChangeShapes Go.WideShapes Go.ChangeAt Go.RowKit Go.Joins Go.Lg.Sem
def theLaid : List (String × DataW Unit) := Rows.catalogChecksRow.laid
theorem own : ownKnob Tryz.prog.godebug = none := by kernel_rfl
theorem laidOut : laidOutB Tryz.prog = true := by kernel_rfl
def firstCells : Array Value := match Go.Pinned.utf8First with
  | .agg l => (l.map fun | .lit (.int k n) => Value.int k n | _ => undef).toArray
  | _ => #[]
noncomputable def laidWorld (os : Os) : World :=
  let w0 := World.doorLaid Tryz.prog 72 os
  { w0 with heap := w0.heap.modify 2 fun
      | .cells _ t frozen => .cells firstCells t frozen
      | o => o }
set_option maxRecDepth 100000 in
theorem laidWorld_met (os : Os) (args : Array Value) : laidMetH Tryz.prog theLaid ((laidWorld os).forCall (fun _ _ => 0) ⟨#[], args, []⟩).memory :=
  laidMetH_of_parts3 (fuel := 8) (laidMet_of_run' 8 (by kernel_rfl) (by kernel_rfl)) (by kernel_rfl) (by kernel_rfl)
set_option maxRecDepth 100000 in
theorem laidWorld_shaped (os : Os) (args : Array Value) : ((laidWorld os).forCall (fun _ _ => 0) ⟨#[], args, []⟩).Shaped Tryz.prog :=
  World.shaped_of_RefB (by kernel_rfl) (by kernel_rfl)
theorem gw_of {W : World} (hs : W.ShapedOpen Tryz.prog) (h : laidMetH Tryz.prog theLaid W) : Gw W := by
  rw [MakeChecks.laidMetH_plain _ _ _ (by kernel_rfl)] at h
  have h2 : laidMet Tryz.prog (("internal/strconv.uint64pow10", Lib.tabData .u64 Lib.pow10Tab) :: theLaid.drop 3) W := h.tail.tail
  have ht := Lib.tabIs_of_head tab_at (t := 230) (e := 103) (n := 20) (by kernel_rfl) Tryz.underlying230 Tryz.underlying103 (by kernel_rfl) (by kernel_rfl) h2
  obtain ⟨m, hm⟩ := cell_of_shapedOpen_int (g := 4) (zero := #[.int .i64 0]) (t := 3) hs (of_decide_eq_true (by kernel_rfl)) (by kernel_rfl) rfl (by kernel_rfl) (by kernel_rfl) Tryz.underlying3
  have hbig : 8 ≤ W.heap.size := by
    have := ht
    unfold Lib.TabIs World.var? at this
    rw [tab_at, Option.bind_some] at this
    cases hb : W.heap[7]? with
    | none => rw [hb] at this; cases this
    | some o => have := (Array.getElem?_eq_some_iff.1 hb).1; omega
  have h3 : laidMet Tryz.prog (("math/bits.deBruijn64tab", Lib.tabData .u8 (Lib.deBruijn64tab.map Int.ofNat)) :: theLaid.drop 2) W := h.tail
  have hd := Lib.tabIs_of_head (g := 0) (t := 136) (e := 5) (n := 64) (by kernel_rfl) (by kernel_rfl) Tryz.underlying136 Tryz.underlying5 (by kernel_rfl) (by kernel_rfl) h3
  exact ⟨⟨m, hm⟩, ht, hbig, fun j hj => by
    have h4 := hd.cell (g := 0) (by kernel_rfl) j (by rw [List.length_map]; exact hj)
    rw [h4]
    congr 2
    simp only [List.getD_eq_getElem?_getD, List.getElem?_map, List.getElem?_eq_getElem hj, Option.map_some, Option.getD_some]; rfl⟩
theorem returns_both {H : Type} {enc : TypeId × Value → H} {a : Assume} {C : Checked} {os : Os} {f : FuncId} {fn : Func} {s : ChangeSpec} {conds : List PathCond} {apart fresh handsOn again : Bool} {X : World → Array Value → Prop}
    (hX : ∀ (w w' : World) (args : Array Value), w.heap = w'.heap → X w args → X w' args)
    (own : ownKnob C.prog.godebug = none) (started : os.Started) (noInit : C.prog.inits.idxOf? f = none) (hfn : C.prog.funcs[f]? = some fn)
    (witness : ∃ (w : World) (tape : Tape) (i : Input), w.os = os ∧ (w.forCall tape i).Shaped C.prog ∧ i.vars = [] ∧ Input.okWide C.prog (w.forCall tape i) .any w.heap.size f i ∧
      ((s.pre enc C.prog fn conds apart (w.forCall tape i).memory i.args ∧ X (w.forCall tape i).memory i.args) ∧ sizedMet enc C.prog fn (OpenSpec.ofChange s) apart (w.forCall tape i).memory i.args) ∧ a.holds C.prog (lone (Frame.enter C.prog f i.args .normal) [] (w.forCall tape i)))
    (contract : ∀ (W : World) (base : Nat) (args : Array Value) (ds gs : List (DataW H)) (before : List MemPlace),
      (∀ (j : Nat) t v, fn.params[j]? = some t → args[j]? = some v → Value.okWide C.prog W .any base t v) →
      DataW.Whole enc C.prog fn.params.toList s.vars apart W args.toList ds gs before →
      (DataW.weightsEach C.prog (fn.params.toList ++ s.plain.varTypes C.prog) (ds ++ gs)).all (· ≤ reachBytes) = true → X W args → W.ShapedOpen C.prog →
      Calls C.prog f args W fun e W' => ∃ v, e = .returned v ∧ s.post enc C.prog fn apart fresh handsOn again W args v W') :
    ReturnsInHanded a C os f .any (fun w args => (s.pre enc C.prog fn conds apart w args ∧ X w args) ∧ sizedMet enc C.prog fn (OpenSpec.ofChange s) apart w args) (s.post enc C.prog fn apart fresh handsOn again) := by
  refine returnsInHanded_of_calls own started noInit witness ?_
  intro w tape i _ hsh _ hok hpre hholds
  obtain ⟨_, _, _, fn', hfn', _, _, _, _, hval⟩ := hok
  obtain rfl := Option.some.inj (hfn'.symm.trans hfn)
  obtain ⟨⟨⟨ds, gs, before, hw, hc⟩, hx⟩, hz⟩ := hpre
  have hw' := DataW.Whole.of_heap (w' := w.forCall tape i) (by rfl) hw
  refine (contract (w.forCall tape i) w.heap.size i.args ds gs before hval hw' (hz.weights hw) (hX _ _ _ (by rfl) hx) hsh).mono fun e W' ⟨v, he, hp⟩ => ?_
  subst he
  exact ChangeSpec.post_blind hp
section
variable {H : Type} {enc : TypeId × Value → H} {W : World}
theorem stays {t : TypeId} (hr : (Tryz.prog).readableRec t = true) (hrow : t < (Tryz.prog).types.size) {W' : World} {v : Value} {d : DataW H} {p : List MemPlace} (h : DataW.Trod enc Tryz.prog W 0 (fun _ => true) true t v d p) (hb : Below W.heap.size W W') (hlt : ∀ x ∈ p, x.block < W.heap.size) :
    DataW.Trod enc Tryz.prog W' 0 (fun b => decide (b < W.heap.size)) true t v d p := hb.trod laidOut hr hrow h hlt
theorem opens_ver : Opens enc Tryz.prog W 75 (fun v : Ver => [.sc (.int .i64 v.a), .sc (.int .i64 v.b), .sc (.int .i64 v.c), .sc (.string v.p)]) :=
  (opens_struct Tryz.underlying75 (by kernel_rfl) (OpensF.cons rfl (k := 1) (by kernel_rfl) (opens_int Tryz.underlying3) (OpensF.cons rfl (k := 1) (by kernel_rfl) (opens_int Tryz.underlying3) (OpensF.cons rfl (k := 1) (by kernel_rfl) (opens_int Tryz.underlying3)
    (OpensF.cons rfl (k := 1) (by kernel_rfl) (opens_string Tryz.underlying9) OpensF.nil))))).map (fun p : Int × Int × Int × ByteArray × Unit => ⟨p.1, p.2.1, p.2.2.1, p.2.2.2.1⟩) (fun p => rfl)
theorem opens_comp : Opens enc Tryz.prog W 86 (fun c : Cmp => [.sc (.int .i64 c.op), .sc (.int .i64 c.v.a), .sc (.int .i64 c.v.b), .sc (.int .i64 c.v.c), .sc (.string c.v.p)]) :=
  (opens_struct Tryz.underlying86 (by kernel_rfl) (OpensF.cons rfl (k := 1) (by kernel_rfl) (opens_int Tryz.underlying3) (OpensF.cons rfl (k := 4) (by kernel_rfl) opens_ver OpensF.nil))).map (fun p : Int × Ver × Unit => ⟨p.1, p.2.1⟩) (fun p => rfl)
noncomputable instance : Inhabited Cmp := ⟨Cmp.zero⟩
theorem opens_comps : Opens enc Tryz.prog W 84 (fun l : List Cmp => [cmpsT l]) :=
  opens_slice Cmp.t (fun c => rfl) Tryz.underlying84 (fun c => by rw [show (Tryz.prog).cellsOf 86 = 5 by kernel_rfl]; rfl) (by rw [show (Tryz.prog).cellsOf 86 = 5 by kernel_rfl]; omega) opens_comp
theorem opens_rng : Opens enc Tryz.prog W 81 (fun r : Rng => [.ls (r.map cmpsT)]) :=
  (opens_struct Tryz.underlying81 (by kernel_rfl) (OpensF.cons rfl (k := 1) (by kernel_rfl) (opens_slice cmpsT (fun l => rfl) Tryz.underlying79 (fun c => by rw [show (Tryz.prog).cellsOf 84 = 1 by kernel_rfl]; rfl) (by rw [show (Tryz.prog).cellsOf 84 = 1 by kernel_rfl]; omega) opens_comps) OpensF.nil)).map
    (fun p : Rng × Unit => p.1) (fun p => rfl)
end
end Go.Lg.Tryz

set_option linter.unusedSimpArgs false
set_option linter.unusedVariables false
namespace Go.Lg.Tryz
open Go Go.Proofs Go.Proofs.YtdjdfdfelcnpmaaGreatDoor Go.ChangeShapes Go.WideShapes Go.ChangeAt Go.RowKit Go.Joins Go.Lg.Sem
section
variable {H : Type} {enc : TypeId × Value → H} {W : World}
noncomputable instance : Inhabited Nd := ⟨⟨0, []⟩⟩
noncomputable instance : Inhabited Rls := ⟨⟨Cmp.zero.v, 0, []⟩⟩
noncomputable instance : Inhabited Svc := ⟨⟨ByteArray.empty, []⟩⟩
theorem opens_nd : Opens enc Tryz.prog W 83 (fun n : Nd => [.sc (.int .i64 n.s), .ls (n.r.map cmpsT)]) :=
  (opens_struct Tryz.underlying83 (by kernel_rfl) (OpensF.cons rfl (k := 1) (by kernel_rfl) (opens_int Tryz.underlying3) (OpensF.cons rfl (k := 1) (by kernel_rfl) opens_rng OpensF.nil))).map (fun p : Int × Rng × Unit => ⟨p.1, p.2.1⟩) (fun p => rfl)
theorem opens_nds : Opens enc Tryz.prog W 76 (fun l : List Nd => [.ls (l.map ndT)]) :=
  opens_slice ndT (fun c => rfl) Tryz.underlying76 (fun c => by rw [show (Tryz.prog).cellsOf 83 = 2 by kernel_rfl]; rfl) (by rw [show (Tryz.prog).cellsOf 83 = 2 by kernel_rfl]; omega) opens_nd
theorem opens_rls : Opens enc Tryz.prog W 78 (fun r : Rls => [.sc (.int .i64 r.v.a), .sc (.int .i64 r.v.b), .sc (.int .i64 r.v.c), .sc (.string r.v.p), .sc (.int .i64 r.level), .ls (r.needs.map ndT)]) :=
  (opens_struct Tryz.underlying78 (by kernel_rfl) (OpensF.cons rfl (k := 4) (by kernel_rfl) opens_ver (OpensF.cons rfl (k := 1) (by kernel_rfl) (opens_int Tryz.underlying3) (OpensF.cons rfl (k := 1) (by kernel_rfl) opens_nds OpensF.nil)))).map (fun p : Ver × Int × List Nd × Unit => ⟨p.1, p.2.1, p.2.2.1⟩) (fun p => rfl)
theorem opens_rlss : Opens enc Tryz.prog W 70 (fun l : List Rls => [.ls (l.map rlsT)]) :=
  opens_slice rlsT (fun c => rfl) Tryz.underlying70 (fun c => by rw [show (Tryz.prog).cellsOf 78 = 6 by kernel_rfl]; rfl) (by rw [show (Tryz.prog).cellsOf 78 = 6 by kernel_rfl]; omega) opens_rls
theorem opens_svc : Opens enc Tryz.prog W 72 (fun s : Svc => [.sc (.string s.name), .ls (s.rels.map rlsT)]) :=
  (opens_struct Tryz.underlying72 (by kernel_rfl) (OpensF.cons rfl (k := 1) (by kernel_rfl) (opens_string Tryz.underlying9) (OpensF.cons rfl (k := 1) (by kernel_rfl) opens_rlss OpensF.nil))).map (fun p : ByteArray × List Rls × Unit => ⟨p.1, p.2.1⟩) (fun p => rfl)
theorem opens_cat : Opens enc Tryz.prog W 24 (fun c : Ctl => [.ls (c.map svcT)]) :=
  (opens_struct Tryz.underlying24 (by kernel_rfl) (OpensF.cons rfl (k := 1) (by kernel_rfl) (opens_slice svcT (fun c => rfl) Tryz.underlying22 (fun c => by rw [show (Tryz.prog).cellsOf 72 = 2 by kernel_rfl]; rfl) (by rw [show (Tryz.prog).cellsOf 72 = 2 by kernel_rfl]; omega) opens_svc) OpensF.nil)).map (fun p : Ctl × Unit => p.1) (fun p => rfl)
theorem opens_ints : Opens enc Tryz.prog W 45 (fun l : List Int => [.ls (l.map fun v => .sc (.int .i64 v))]) :=
  opens_slice (fun v : Int => T.sc (.int .i64 v)) (fun c => rfl) Tryz.underlying45 (fun c => by rw [show (Tryz.prog).cellsOf 3 = 1 by kernel_rfl]; rfl) (by rw [show (Tryz.prog).cellsOf 3 = 1 by kernel_rfl]; omega) (opens_int Tryz.underlying3)
end
end Go.Lg.Tryz
