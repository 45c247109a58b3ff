/- Words and laws that the theorem leans on (part 6). -/
import Derived.Test.YtikjlooifdgbaaaGreatDoorP11355698
import Derived.Test.YtikjlooifdgbaaaGreatDoorP49b084f4
import Derived.Test.YtikjlooifdgbaaaGreatDoorPd468651e
import Derived.Test.YtikjlooifdgbaaaGreatDoorPee21ccff
import Derived.Test.YtikjlooifdgbaaaGreatDoorP621e04f6
import Derived.Test.YtikjlooifdgbaaaGreatDoorRows
import Derived.Carry
import Derived.Lib.SmallJoins
import Derived.LaidMore
import Derived.PinnedBridge
import Derived.HandedShaped
import Derived.ProofKit
import Derived.OpenShut
import Derived.ShutString
import Derived.SizedLaws
import Derived.Stop.LaidErr
import Derived.Stop.Joined
import Derived.Shelf.Vars
import Derived.Lib.LaidTab
import Derived.MakeChecks
set_option linter.unusedVariables false
set_option linter.unusedSimpArgs false

set_option linter.unusedVariables false
set_option linter.unusedSimpArgs false
namespace Go.Lg.Tryz
open Go Go.Proofs Go.RowKit Go.Lib Go.Lg.Sem
theorem chs_f' {g : BitVec 64} {l : List Stp} {k : Nat} (h : g.getLsbD k = false) : chs g l (k + 1) = chs g l k := by
  unfold chs; rw [List.range_succ, List.filterMap_append]; simp [h]
theorem chs_ge {g : BitVec 64} {l : List Stp} {n : Nat} (hg : ∀ j, n ≤ j → g.getLsbD j = false) : ∀ d, chs g l (n + d) = chs g l n
  | 0 => rfl
  | d + 1 => by rw [show n + (d + 1) = (n + d) + 1 by omega, chs_f' (hg _ (by omega))]; exact chs_ge hg d
abbrev pcT (p : Int × Int) : T := placeT p.1 p.2
theorem fleet0c {c : Ctl} {f : List Int} (t : List Int) (hr : rightV c f = true) : (fleetL c f t []).map pcT = (pls c f).map plT := by
  apply List.ext_getElem?
  intro i
  by_cases hi : i < f.length
  · obtain ⟨v, s, r, hv, hs, hv0, hrv, hrel⟩ := (rightV_at hr).2 i hi
    have e : plAt c f i = ⟨floatOfInt .f64 v, floatOfInt .f64 (2 * r.level), v, 2 * r.level⟩ := by unfold plAt; rw [hv]; simp only; rw [hrel]
    have h1 : (pls c f)[i]? = some (plAt c f i) := by unfold pls; rw [List.getElem?_map, List.getElem?_range hi]; rfl
    rw [List.getElem?_map, List.getElem?_map, fleetL_at c f t [] hi, h1, e]
    show some (placeT (vAt f i + ((0 : Nat) : Int) * (vAt t i - vAt f i)) (2 * lvl c i (vAt f i) + ((0 : Nat) : Int))) = some (placeT v (2 * r.level))
    rw [vAt_of hv]
    have : lvl c i v = r.level := by unfold lvl; rw [hrel]
    rw [this]
    simp
  · rw [List.getElem?_eq_none (by rw [List.length_map, fleetL_len]; omega), List.getElem?_eq_none (by rw [List.length_map]; unfold pls; simp; omega)]
def svcCh (ch : List Stp) (i : Nat) : List Stp := ch.filter fun a => a.s == i
theorem svc_cnt (ch : List Stp) (i : Nat) : cnt2 (svcCh ch i) i = cnt2 ch i ∧ cntF (svcCh ch i) i = cntF ch i := by
  unfold cnt2 cntF svcCh
  rw [List.filter_filter, List.filter_filter]
  refine ⟨?_, ?_⟩
  · congr 2; funext a; cases a.s == i <;> simp
  · congr 2; funext a; cases a.s == i <;> simp
theorem svc_fleet (c : Ctl) (f t : List Int) (ch : List Stp) (i : Nat) : fleetAt c f t (svcCh ch i) i = fleetAt c f t ch i := by
  unfold fleetAt; rw [(svc_cnt ch i).1, (svc_cnt ch i).2]
theorem vec_add {c : Ctl} {f t : List Int} (hlv : LvOk c) (hf : rightV c f = true) (ht : rightV c t = true) {ch : List Stp} {a : Stp} {i : Nat} (hi : i < f.length) (hs : a.s = i) (hk : a.k = 1 ∨ a.k = 2 ∨ a.k = 3) (hnd : (ch ++ [a]).Nodup) (hkk : ∀ b, b ∈ ch ++ [a] → b.k = 1 ∨ b.k = 2 ∨ b.k = 3) :
    ∃ x y, vecT f t a = .sc (.complex .f64 x y) ∧ cbinB .add (floatOfInt .f64 (fleetAt c f t ch i).1) (floatOfInt .f64 (fleetAt c f t ch i).2) x y = some (floatOfInt .f64 (fleetAt c f t (ch ++ [a]) i).1, floatOfInt .f64 (fleetAt c f t (ch ++ [a]) i).2) := by
  obtain ⟨hfl, hfa⟩ := rightV_at hf
  obtain ⟨htl, hta⟩ := rightV_at ht
  obtain ⟨v, s, r, hv, hsv, hv0, hr, hrel⟩ := hfa i hi
  obtain ⟨w, s', r', hw, hsw, hw0, hr', hrel'⟩ := hta i (by omega)
  obtain ⟨hs12, hsl⟩ := hlv s (List.mem_of_getElem? hsv)
  obtain ⟨hs12', _⟩ := hlv s' (List.mem_of_getElem? hsw)
  obtain ⟨l0, l1⟩ := hsl r (List.mem_of_getElem? hr)
  have hvl := (List.getElem?_eq_some_iff.1 hr).1
  have hwl := (List.getElem?_eq_some_iff.1 hr').1
  have hlvl : lvl c i v = r.level := by unfold lvl; rw [hrel]
  have hnd1 : ch.Nodup := (List.nodup_append.1 hnd).1
  have c2 := cnt2_eq hnd1 i
  have c2' := cnt2_eq hnd i
  have cF := cntF_eq hnd1 (fun b hb => hkk b (List.mem_append_left _ hb)) i
  have cF' := cntF_eq hnd hkk i
  have s2 := cnt2_snoc ch a i
  have sF := cntF_snoc ch a i
  have e1 : (fleetAt c f t ch i).1 = v + (cnt2 ch i : Int) * (w - v) := by unfold fleetAt; simp only; rw [vAt_of hv, vAt_of hw]
  have e2 : (fleetAt c f t ch i).2 = 2 * r.level + (cntF ch i : Int) := by unfold fleetAt; simp only; rw [vAt_of hv, hlvl]
  have hF2 : cntF ch i ≤ 2 := by rw [cF]; split <;> split <;> omega
  rw [fleet_snoc, if_pos hs, vAt_of hv, vAt_of hw]
  unfold vecT
  by_cases h2 : a.k = 2
  · rw [if_pos h2, if_pos h2, hs, vAt_of hv, vAt_of hw]
    rw [if_pos ⟨hs, h2⟩] at s2
    have hz : cnt2 ch i = 0 := by
      have : cnt2 (ch ++ [a]) i ≤ 1 := by rw [c2']; split <;> omega
      omega
    refine ⟨_, _, rfl, ?_⟩
    have q1 : (fleetAt c f t ch i).1 = v := by rw [e1, hz]; simp
    rw [q1, e2]
    have h1 := addF_of (a := v) (b := w - v) (by omega) (by omega) (by omega) (by omega)
    have h2 := addF_up (a := 2 * r.level + (cntF ch i : Int)) (b := 0) (by omega) (by omega) (.inl rfl)
    rw [Int.add_zero] at h2
    unfold cbinB
    simp only
    rw [h1, h2]
  · rw [if_neg h2, if_neg h2]
    refine ⟨_, _, rfl, ?_⟩
    have q1 : 0 ≤ (fleetAt c f t ch i).1 ∧ (fleetAt c f t ch i).1 ≤ 11 := by
      rw [e1, c2]
      split
      · simp; omega
      · simp; omega
    rw [e2]
    have h1 := addF_of (a := (fleetAt c f t ch i).1) (b := 0) q1.1 q1.2 (by omega) (by omega)
    have h2 := addF_up (a := 2 * r.level + (cntF ch i : Int)) (b := 1) (by omega) (by omega) (.inr rfl)
    rw [Int.add_zero] at h1
    unfold cbinB
    simp only
    rw [h1, h2]
theorem fleet_rng {c : Ctl} {f t : List Int} (hlv : LvOk c) (hf : rightV c f = true) (ht : rightV c t = true) {ch : List Stp} {i : Nat} (hi : i < f.length) (hnd : ch.Nodup) (hkk : ∀ b, b ∈ ch → b.k = 1 ∨ b.k = 2 ∨ b.k = 3) :
    (0 ≤ (fleetAt c f t ch i).1 ∧ (fleetAt c f t ch i).1 ≤ 11) ∧ 0 ≤ (fleetAt c f t ch i).2 ∧ (fleetAt c f t ch i).2 ≤ 2002 := by
  obtain ⟨hfl, hfa⟩ := rightV_at hf
  obtain ⟨htl, hta⟩ := rightV_at ht
  obtain ⟨v, s, r, hv, hsv, hv0, hr, hrel⟩ := hfa i hi
  obtain ⟨w, s', r', hw, hsw, hw0, hr', hrel'⟩ := hta i (by omega)
  obtain ⟨hs12, hsl⟩ := hlv s (List.mem_of_getElem? hsv)
  obtain ⟨hs12', _⟩ := hlv s' (List.mem_of_getElem? hsw)
  obtain ⟨l0, l1⟩ := hsl r (List.mem_of_getElem? hr)
  have hvl := (List.getElem?_eq_some_iff.1 hr).1
  have hwl := (List.getElem?_eq_some_iff.1 hr').1
  have hlvl : lvl c i v = r.level := by unfold lvl; rw [hrel]
  have c2 := cnt2_eq hnd i
  have cF := cntF_eq hnd hkk i
  have e1 : (fleetAt c f t ch i).1 = v + (cnt2 ch i : Int) * (w - v) := by unfold fleetAt; simp only; rw [vAt_of hv, vAt_of hw]
  have e2 : (fleetAt c f t ch i).2 = 2 * r.level + (cntF ch i : Int) := by unfold fleetAt; simp only; rw [vAt_of hv, hlvl]
  have hF2 : cntF ch i ≤ 2 := by rw [cF]; split <;> split <;> omega
  refine ⟨?_, by rw [e2]; omega⟩
  rw [e1, c2]
  split
  · simp; omega
  · simp; omega
def outL (c : Ctl) (f t : List Int) (CH : List Stp) (i : Nat) : List (Int × Int) := (List.range f.length).map fun m => fleetAt c f t (if m < i then CH else []) m
theorem outL_zero (c : Ctl) (f t : List Int) (CH : List Stp) : outL c f t CH 0 = fleetL c f t [] := by unfold outL fleetL; simp
theorem outL_at (c : Ctl) (f t : List Int) (CH : List Stp) (i : Nat) {m : Nat} (hm : m < f.length) : (outL c f t CH i)[m]? = some (fleetAt c f t (if m < i then CH else []) m) := by
  unfold outL; rw [List.getElem?_map, List.getElem?_range hm]; rfl
theorem outL_len (c : Ctl) (f t : List Int) (CH : List Stp) (i : Nat) : (outL c f t CH i).length = f.length := by unfold outL; simp
theorem outL_full (c : Ctl) (f t : List Int) (CH : List Stp) : outL c f t CH f.length = fleetL c f t CH := by
  unfold outL fleetL
  apply List.map_congr_left
  intro m hm
  rw [if_pos (List.mem_range.1 hm)]
theorem outL_set0 (c : Ctl) (f t : List Int) (CH : List Stp) {i : Nat} (hi : i < f.length) : (outL c f t CH i).set i (fleetAt c f t [] i) = outL c f t CH i := by
  apply List.ext_getElem?
  intro m
  by_cases e : i = m
  · subst e
    rw [List.getElem?_set_self (by rw [outL_len]; exact hi), outL_at c f t CH i hi, if_neg (by omega)]
  · rw [List.getElem?_set_ne e]
theorem outL_set1 (c : Ctl) (f t : List Int) (CH : List Stp) {i : Nat} (hi : i < f.length) : (outL c f t CH i).set i (fleetAt c f t CH i) = outL c f t CH (i + 1) := by
  apply List.ext_getElem?
  intro m
  by_cases hm : m < f.length
  · rw [outL_at c f t CH (i + 1) hm]
    by_cases e : i = m
    · subst e
      rw [List.getElem?_set_self (by rw [outL_len]; exact hi), if_pos (by omega)]
    · rw [List.getElem?_set_ne e, outL_at c f t CH i hm]
      by_cases h : m < i
      · rw [if_pos h, if_pos (by omega)]
      · rw [if_neg h, if_neg (by omega)]
  · rw [List.getElem?_eq_none (by rw [List.length_set, outL_len]; omega), List.getElem?_eq_none (by rw [outL_len]; omega)]
end Go.Lg.Tryz

set_option linter.unusedVariables false
set_option linter.unusedSimpArgs false
namespace Go.Lg.Tryz
open Go Go.Proofs Go.RowKit Go.Lib Go.Lg.Sem
def vecs (f t : List Int) (ch : List Stp) (i : Nat) : List T := (ch.filter fun a => a.s == i).map (vecT f t)
theorem vecs_snoc (f t : List Int) (ch : List Stp) (a : Stp) (i : Nat) : vecs f t (ch ++ [a]) i = if a.s = i then vecs f t ch i ++ [vecT f t a] else vecs f t ch i := by
  unfold vecs
  rw [List.filter_append, List.map_append]
  by_cases h : a.s = i
  · rw [if_pos h, List.filter_cons_of_pos (by simpa using h)]; rfl
  · rw [if_neg h, List.filter_cons_of_neg (by simpa using h)]; simp
def eachL (f t : List Int) (ch : List Stp) : List AV := (List.range f.length).map fun i => .own 84 (vecs f t ch i)
theorem eachL_at (f t : List Int) (ch : List Stp) {i : Nat} (hi : i < f.length) : (eachL f t ch)[i]? = some (.own 84 (vecs f t ch i)) := by
  unfold eachL; rw [List.getElem?_map, List.getElem?_range hi]; rfl
theorem eachL_len (f t : List Int) (ch : List Stp) : (eachL f t ch).length = f.length := by unfold eachL; simp
theorem eachL_set (f t : List Int) (ch : List Stp) (a : Stp) (ha : a.s < f.length) (z : AV) : ((eachL f t ch).set a.s z).set a.s (.own 84 (vecs f t ch a.s ++ [vecT f t a])) = eachL f t (ch ++ [a]) := by
  apply List.ext_getElem?
  intro i
  by_cases hi : i < f.length
  · rw [eachL_at f t _ hi, vecs_snoc]
    by_cases h : a.s = i
    · subst h
      rw [List.getElem?_set_self (by rw [List.length_set, eachL_len]; exact ha), if_pos rfl]
    · rw [List.getElem?_set_ne h, List.getElem?_set_ne h, eachL_at f t _ hi, if_neg h]
  · rw [List.getElem?_eq_none (by rw [List.length_set, List.length_set, eachL_len]; omega), List.getElem?_eq_none (by rw [eachL_len]; omega)]
theorem eachL_nil (f t : List Int) : eachL f t [] = List.replicate f.length (.own 84 []) := by
  unfold eachL
  rw [List.eq_replicate_iff]
  refine ⟨by simp, fun b hb => ?_⟩
  obtain ⟨i, _, rfl⟩ := List.mem_map.1 hb
  rfl
theorem refsL_all {κ : Loc} : ∀ {l : List AV}, (∀ v, v ∈ l → v.refs κ = false) → refsL κ l = false
  | [], _ => rfl
  | v :: l, h => by simp only [refsL, Bool.or_eq_false_iff]; exact ⟨h v (List.mem_cons_self ..), refsL_all fun u hu => h u (List.mem_cons_of_mem _ hu)⟩
theorem eachL_refs (f t : List Int) (ch : List Stp) (κ : Loc) (i : Nat) (z : AV) (hz : z.refs κ = false) : refsL κ ((eachL f t ch).set i z) = false := by
  refine refsL_all fun v hv => ?_
  rcases List.mem_or_eq_of_mem_set hv with h | rfl
  · unfold eachL at h
    obtain ⟨j, _, rfl⟩ := List.mem_map.1 h
    rfl
  · exact hz
theorem refsL_unk (κ : Loc) : ∀ k, refsL κ (List.replicate k AV.unk) = false
  | 0 => rfl
  | k + 1 => by rw [List.replicate_succ]; simp [refsL, AV.refs, refsL_unk κ k]
theorem refsL_pad (κ : Loc) (k : Nat) : ∀ xs : List T, refsL κ (xs.map AV.tr ++ List.replicate k AV.unk) = false
  | [] => refsL_unk κ k
  | x :: xs => by rw [List.map_cons, List.cons_append]; simp [refsL, AV.refs, refsL_pad κ k xs]
set_option maxRecDepth 8192 in
theorem Fleet_ok {c : Ctl} (hc : c.length ≤ 12) (hlv : LvOk c) {f t : List Int} (hf : rightV c f = true) (ht : rightV c t = true) (l : List Stp) (e : List (Nat × Nat)) (hl : l.length ≤ 63) (hf1 : 1 ≤ f.length) (hnd : l.Nodup) (hin : ∀ a, a ∈ l → a.s < f.length ∧ (a.k = 1 ∨ a.k = 2 ∨ a.k = 3)) (g : BitVec 64) (hg : ∀ j, l.length ≤ j → g.getLsbD j = false) :
    Fn Tryz.prog Gw 31 [.tr (ctlT c), .tr (plnT ⟨f, t, l, e⟩), u64 g] [] (· = .tup [.tr (.ls ((fleetL c f t (chs g l l.length)).map fun p => placeT p.1 p.2)), int 0]) := by
  have hS := SettledR_ok (by omega) hlv hf
  rw [← pls_t] at hS
  have hS2 := Settled_ok (by omega) hlv t
  have hA2 : settledA c t = .tup [.tr (.ls ((pls c t).map plT)), int 0] := by unfold settledA; rw [ht, pls_t]; rfl
  rw [hA2] at hS2
  obtain ⟨hfl, hfa⟩ := rightV_at hf
  obtain ⟨htl, hta⟩ := rightV_at ht
  have hpl : (pls c f).length = f.length := by unfold pls; simp
  refine Fn.of tab_ok Tryz.func31 rfl (by decide) (by simp [Tryz.f31]) rfl (fun κ v h => by cases h) Gw.below ?_
  refine zS ?_
  refine zR ?_
  refine zE tab_ok rfl rfl ?_
  refine zE tab_ok rfl rfl ?_
  refine zE tab_ok rfl rfl ?_
  refine zE tab_ok rfl rfl ?_
  refine zN ?_
  refine zS ?_
  refine zR ?_
  refine zE tab_ok rfl rfl ?_
  refine zE tab_ok rfl rfl ?_
  refine zE tab_ok rfl rfl ?_
  refine Sq.callv rfl (hS) ?_
  refine Sq.take rfl ?_
  refine Sq.extractR rfl ?_
  refine zE tab_ok rfl rfl ?_
  refine zE tab_ok rfl rfl ?_
  refine zE tab_ok rfl rfl ?_
  refine zN ?_
  refine zS ?_
  refine zS ?_
  refine zR ?_
  refine zE tab_ok rfl rfl ?_
  refine zE tab_ok rfl rfl ?_
  refine zE tab_ok rfl rfl ?_
  refine Sq.callv rfl (hS2) ?_
  refine zE tab_ok rfl rfl ?_
  refine zE tab_ok rfl rfl ?_
  refine zE tab_ok rfl rfl ?_
  refine zE tab_ok rfl rfl ?_
  refine zE tab_ok rfl rfl ?_
  refine zN ?_
  refine zS ?_
  refine Tr.sub (m' := [(.s 2, u64 g), (.s 3, .ptr (.l 3) 0), (.l 3, .blk 24 [.tr (.ls (c.map svcT))]), (.s 4, .ptr (.l 4) 0), (.l 4, .blk 35 [.tr (.ls (f.map intT)), .tr (.ls (t.map intT)), .tr (.ls (l.map stpT)), .tr (.ls (e.map edT))]), (.s 9, int 0), (.s 11, int 0), (.s 8, .raw 84 true ((pls c f).map plT))]) ⟨rfl, rfl, rfl, rfl, rfl, rfl, rfl, rfl, trivial⟩ ?_
  refine Tr.thaw tab_ok 8 (.l 1000) (xs := (pls c f).map plT) rfl (by intro h; have := congrArg List.length h; rw [List.length_map, hpl, List.length_nil] at this; omega) rfl (by decide) rfl rfl ?_
  intro cap hcap
  rw [flat_one (by intro x hx; obtain ⟨a, _, rfl⟩ := List.mem_map.1 hx; rfl)]
  generalize (cap - ((pls c f).map plT).length) * 1 = ku
  rw [List.length_map, hpl] at hcap ⊢
  repeat' (first|refine zS ?_|refine zR ?_|refine zE tab_ok rfl rfl ?_|refine zN ?_|(refine zG rfl rfl (fun _ => ?_) fun _ => ?_)<;>refine zE tab_ok rfl rfl ?_|(refine zC rfl (fun _ => ?_) fun _ => ?_)<;>try (rename_i h; cases h; done)|refine zB ?_|refine zK ?_|refine zZ ⟨_, rfl, ?_⟩)
  refine Sq.lenS tab_ok rfl ?_
  refine Sq.make tab_ok rfl rfl (by omega) (by omega) (by omega) (by simp [-List.map_map, freshB, pinB, refsM, AV.refs, refsL_pad, refsL_tr, refsL, Loc.eqb]; try decide) ?_
  refine zE tab_ok rfl rfl ?_
  refine zN ?_
  repeat' (first|refine zS ?_|refine zR ?_|refine zE tab_ok rfl rfl ?_|refine zN ?_|(refine zG rfl rfl (fun _ => ?_) fun _ => ?_)<;>refine zE tab_ok rfl rfl ?_|(refine zC rfl (fun _ => ?_) fun _ => ?_)<;>try (rename_i h; cases h; done)|refine zB ?_|refine zK ?_|refine zZ ⟨_, rfl, ?_⟩)
  refine Tr.loopS (fun k : Nat => [(.s 2, u64 g), (.s 3, .ptr (.l 3) 0), (.l 3, .blk 24 [.tr (.ls (c.map svcT))]), (.s 4, .ptr (.l 4) 0), (.l 4, .blk 35 [.tr (.ls (f.map intT)), .tr (.ls (t.map intT)), .tr (.ls (l.map stpT)), .tr (.ls (e.map edT))]), (.s 8, .sl (.l 1000) f.length cap), (.l 1000, .blk 84 (((pls c f).map plT).map AV.tr ++ List.replicate ku AV.unk)), (.s 12, .sl (.l 46) f.length f.length), (.l 46, .blk 79 (eachL f t (chs g l k))), (.s 47, int k)]) (fun k => 64 - k) (fun k => k ≤ 64)
    0 (by omega) (Sub.app (l := [_, _, _, _, _, _, _, _, _, _]) (H := []) ⟨rfl, rfl, rfl, rfl, rfl, rfl, rfl, rfl, by rw [show chs g l 0 = [] from rfl, eachL_nil]; rfl, rfl, trivial⟩ (fun κ v h => nomatch h)) ?_
  rintro k hk
  repeat' (first|refine zS ?_|refine zR ?_|refine zE tab_ok rfl rfl ?_|refine zN ?_|(refine zG rfl rfl (fun _ => ?_) fun _ => ?_)<;>refine zE tab_ok rfl rfl ?_|(refine zC rfl (fun _ => ?_) fun _ => ?_)<;>try (rename_i h; cases h; done)|refine zB ?_|refine zK ?_|refine zZ ⟨_, rfl, ?_⟩)
  · rename_i h2
    have hlt : k < 64 := by have := of_decide_eq_true h2; omega
    refine Sq.shift rfl g k rfl rfl (by omega) ?_
    refine Sq.bits rfl (g >>> k) 1#64 (r := g >>> k &&& 1#64) rfl rfl rfl ?_
    refine zE tab_ok rfl rfl ?_
    refine zN ?_
    refine zC rfl (fun h3 => ?_) (fun h3 => ?_)
    · have h3 : (((g >>> k &&& 1#64).toNat : Int) == 0) = true := h3
      rw [bit1_0, Bool.not_eq_true'] at h3
      refine Tr.exit ?_
      repeat' (first|refine zS ?_|refine zR ?_|refine zE tab_ok rfl rfl ?_|refine zN ?_|(refine zG rfl rfl (fun _ => ?_) fun _ => ?_)<;>refine zE tab_ok rfl rfl ?_|(refine zC rfl (fun _ => ?_) fun _ => ?_)<;>try (rename_i h; cases h; done)|refine zB ?_|refine zK ?_|refine zZ ⟨_, rfl, ?_⟩)
      exact ⟨k + 1, by omega, by omega, Sub.app (l := [_, _, _, _, _, _, _, _, _, _]) (H := []) ⟨rfl, rfl, rfl, rfl, rfl, rfl, rfl, rfl, by rw [chs_f' h3]; rfl, congrArg some (wrapz (by omega) (by omega) (by omega)), trivial⟩ (fun κ v h => nomatch h)⟩
    · have h3 : (((g >>> k &&& 1#64).toNat : Int) == 0) = false := h3
      rw [bit1_0, Bool.not_eq_false'] at h3
      have hkl : k < l.length := by
        rcases Nat.lt_or_ge k l.length with h | h
        · exact h
        · rw [hg k h] at h3; cases h3
      obtain ⟨a, ha⟩ : ∃ a, l[k]? = some a := ⟨_, List.getElem?_eq_getElem hkl⟩
      have hae : (l.map stpT)[((k : Nat) : Int).toNat]? = some (stpT a) := by simp [ha]
      obtain ⟨a1, a2⟩ := hin a (List.mem_of_getElem? ha)
      obtain ⟨v, s, r, hv, hs, hv0, hr, hrel⟩ := hfa a.s a1
      obtain ⟨w, s', r', hw, hs', hw0, hr', hrel'⟩ := hta a.s (by omega)
      obtain ⟨hs12, hsl⟩ := hlv s (List.mem_of_getElem? hs)
      obtain ⟨hs12', _⟩ := hlv s' (List.mem_of_getElem? hs')
      have hvl := (List.getElem?_eq_some_iff.1 hr).1
      have hwl := (List.getElem?_eq_some_iff.1 hr').1
      have hV := Vector_ok f t l e ha (by omega) a2 hv hw (by omega) (by omega) (by omega) (by omega)
      have hsc : chs g l (k + 1) = chs g l k ++ [a] := by rw [chs_succ ha, h3]; rfl
      have hcl := chs_len g l k
      have hvl2 : (vecs f t (chs g l k) a.s).length ≤ 64 := by unfold vecs; rw [List.length_map]; have := List.length_filter_le (fun b : Stp => b.s == a.s) (chs g l k); omega
      have hset := fun z => eachL_set f t (chs g l k) a a1 z
      have hea := eachL_at f t (chs g l k) a1
      have hel := eachL_len f t (chs g l k)
      rw [← hsc] at hset
      have hrf : ∀ κ i (xs : List T), refsL κ ((eachL f t (chs g l k)).set i (AV.deg (.own 84 xs))) = false := fun κ i xs => eachL_refs f t _ κ i _ rfl
      generalize eachL f t (chs g l k) = EL at *
      generalize vecs f t (chs g l k) a.s = VS at *
      obtain ⟨vx, vy, hvt⟩ : ∃ vx vy, vecT f t a = .sc (.complex .f64 vx vy) := by unfold vecT; split <;> exact ⟨_, _, rfl⟩
      rw [hvt] at hset hV
      repeat' (first|refine zS ?_|refine zR ?_|refine zE tab_ok rfl rfl ?_|refine zN ?_|(refine zG rfl rfl (fun _ => ?_) fun _ => ?_)<;>refine zE tab_ok rfl rfl ?_|(refine zC rfl (fun _ => ?_) fun _ => ?_)<;>try (rename_i h; cases h; done)|refine zB ?_|refine zK ?_|refine zZ ⟨_, rfl, ?_⟩)
      refine Sq.callv rfl (hV) ?_
      repeat' (first|refine zS ?_|refine zR ?_|refine zE tab_ok rfl rfl ?_|refine zN ?_|(refine zG rfl rfl (fun _ => ?_) fun _ => ?_)<;>refine zE tab_ok rfl rfl ?_|(refine zC rfl (fun _ => ?_) fun _ => ?_)<;>try (rename_i h; cases h; done)|refine zB ?_|refine zK ?_|refine zZ ⟨_, rfl, ?_⟩)
      refine zI (x := stpT a) tab_ok rfl (by omega) (hae) rfl ?_
      repeat' (first|refine zS ?_|refine zR ?_|refine zE tab_ok rfl rfl ?_|refine zN ?_|(refine zG rfl rfl (fun _ => ?_) fun _ => ?_)<;>refine zE tab_ok rfl rfl ?_|(refine zC rfl (fun _ => ?_) fun _ => ?_)<;>try (rename_i h; cases h; done)|refine zB ?_|refine zK ?_|refine zZ ⟨_, rfl, ?_⟩)
      refine zI (x := stpT a) tab_ok rfl (by omega) (hae) rfl ?_
      repeat' (first|refine zS ?_|refine zR ?_|refine zE tab_ok rfl rfl ?_|refine zN ?_|(refine zG rfl rfl (fun _ => ?_) fun _ => ?_)<;>refine zE tab_ok rfl rfl ?_|(refine zC rfl (fun _ => ?_) fun _ => ?_)<;>try (rename_i h; cases h; done)|refine zB ?_|refine zK ?_|refine zZ ⟨_, rfl, ?_⟩)
      refine Sq.lenS tab_ok rfl ?_
      repeat' (first|refine zS ?_|refine zR ?_|refine zE tab_ok rfl rfl ?_|refine zN ?_|(refine zG rfl rfl (fun _ => ?_) fun _ => ?_)<;>refine zE tab_ok rfl rfl ?_|(refine zC rfl (fun _ => ?_) fun _ => ?_)<;>try (rename_i h; cases h; done)|refine zB ?_|refine zK ?_|refine zZ ⟨_, rfl, ?_⟩)
      · rename_i h4
        exfalso
        have h4 := of_decide_eq_true h4
        omega
      refine zI (x := stpT a) tab_ok rfl (by omega) (hae) rfl ?_
      repeat' (first|refine zS ?_|refine zR ?_|refine zE tab_ok rfl rfl ?_|refine zN ?_|(refine zG rfl rfl (fun _ => ?_) fun _ => ?_)<;>refine zE tab_ok rfl rfl ?_|(refine zC rfl (fun _ => ?_) fun _ => ?_)<;>try (rename_i h; cases h; done)|refine zB ?_|refine zK ?_|refine zZ ⟨_, rfl, ?_⟩)
      refine Sq.indexS (j := ((a.s : Nat) : Int)) (len := f.length) tab_ok rfl (by omega) (by omega) ?_
      refine Sq.loadT (v := .own 84 VS) tab_ok rfl (by rw [Int.toNat_natCast, Nat.mul_one]; exact hea) rfl ?_
      refine zE tab_ok rfl rfl ?_
      refine zE tab_ok rfl (by simp [-List.map_map, freshB, pinB, refsM, AV.refs, refsL_pad, refsL_tr, refsL, Loc.eqb, hrf]; try decide) ?_
      refine Sq.append tab_ok rfl (fun y hy => by simp only [List.mem_singleton] at hy; subst hy; rfl) (by simp; omega) ?_
      refine Sq.indexS (j := ((a.s : Nat) : Int)) (len := f.length) tab_ok rfl (by omega) (by omega) ?_
      refine Sq.storeT tab_ok rfl (by rw [List.length_set, hel, Int.toNat_natCast]; omega) ?_
      repeat' (first|refine zS ?_|refine zR ?_|refine zE tab_ok rfl rfl ?_|refine zN ?_|(refine zG rfl rfl (fun _ => ?_) fun _ => ?_)<;>refine zE tab_ok rfl rfl ?_|(refine zC rfl (fun _ => ?_) fun _ => ?_)<;>try (rename_i h; cases h; done)|refine zB ?_|refine zK ?_|refine zZ ⟨_, rfl, ?_⟩)
      exact ⟨k + 1, by omega, by omega, Sub.app (l := [_, _, _, _, _, _, _, _, _, _]) (H := []) ⟨rfl, rfl, rfl, rfl, rfl, rfl, rfl, rfl, congrArg some (congrArg (AV.blk _) (by rw [← hset (AV.deg (.own 84 VS)), Int.toNat_natCast, Nat.mul_one])), congrArg some (wrapz (by omega) (by omega) (by omega)), trivial⟩ (fun κ v h => nomatch h)⟩
  · rename_i h2
    have : k = 64 := by have := of_decide_eq_false h2; omega
    subst this
    have hch : chs g l 64 = chs g l l.length := by
      have := chs_ge (g := g) (l := l) hg (64 - l.length)
      rw [show l.length + (64 - l.length) = 64 by omega] at this
      exact this
    rw [hch, ← fleet0c t hf]
    have hCn := chs_nodup (g := g) hnd l.length
    have hCk : ∀ b, b ∈ chs g l l.length → b.k = 1 ∨ b.k = 2 ∨ b.k = 3 := fun b hb => by
      obtain ⟨j, _, _, h⟩ := chs_mem.1 hb
      exact (hin b (List.mem_of_getElem? h)).2
    clear hch
    have hCl := chs_len g l l.length
    generalize chs g l l.length = CH at *
    refine Tr.exit ?_
    refine zS ?_
    refine zS ?_
    refine zR ?_
    refine zE tab_ok rfl rfl ?_
    refine Sq.lenS tab_ok rfl ?_
    repeat' (first|refine zS ?_|refine zR ?_|refine zE tab_ok rfl rfl ?_|refine zN ?_|(refine zG rfl rfl (fun _ => ?_) fun _ => ?_)<;>refine zE tab_ok rfl rfl ?_|(refine zC rfl (fun _ => ?_) fun _ => ?_)<;>try (rename_i h; cases h; done)|refine zB ?_|refine zK ?_|refine zZ ⟨_, rfl, ?_⟩)
    refine Tr.loopS (fun i : Nat => [(.s 8, .sl (.l 1000) f.length cap), (.l 1000, .blk 84 (((outL c f t CH i).map pcT).map AV.tr ++ List.replicate ku AV.unk)), (.s 100, .sl (.l 46) f.length f.length), (.l 46, .blk 79 (eachL f t CH)), (.s 101, int f.length), (.s 102, int i)]) (fun i => f.length - i) (fun i => i ≤ f.length)
      0 (by omega) (Sub.app (l := [_, _, _, _, _, _]) (H := []) ⟨rfl, by rw [outL_zero]; rfl, rfl, rfl, rfl, rfl, trivial⟩ (fun κ v h => nomatch h)) ?_
    rintro i hi
    repeat' (first|refine zS ?_|refine zR ?_|refine zE tab_ok rfl rfl ?_|refine zN ?_|(refine zG rfl rfl (fun _ => ?_) fun _ => ?_)<;>refine zE tab_ok rfl rfl ?_|(refine zC rfl (fun _ => ?_) fun _ => ?_)<;>try (rename_i h; cases h; done)|refine zB ?_|refine zK ?_|refine zZ ⟨_, rfl, ?_⟩)
    · rename_i h3
      have hlt : i < f.length := by have := of_decide_eq_true h3; omega
      have hea := eachL_at f t CH hlt
      have hol := outL_len c f t CH i
      have hs0 := outL_set0 c f t CH hlt
      have hs1 := outL_set1 c f t CH hlt
      refine Sq.indexS (j := ((i : Nat) : Int)) (len := f.length) tab_ok rfl (by omega) (by omega) ?_
      refine Sq.loadS (v := .own 84 (vecs f t CH i)) tab_ok rfl (by rw [Int.toNat_natCast, Nat.mul_one]; exact hea) ?_
      repeat' (first|refine zS ?_|refine zR ?_|refine zE tab_ok rfl rfl ?_|refine zN ?_|(refine zG rfl rfl (fun _ => ?_) fun _ => ?_)<;>refine zE tab_ok rfl rfl ?_|(refine zC rfl (fun _ => ?_) fun _ => ?_)<;>try (rename_i h; cases h; done)|refine zB ?_|refine zK ?_|refine zZ ⟨_, rfl, ?_⟩)
      have hVS : vecs f t CH i = (svcCh CH i).map (vecT f t) := rfl
      rw [hVS] at hea ⊢
      have hsvn : (svcCh CH i).Nodup := hCn.filter _
      have hsvs : ∀ b, b ∈ svcCh CH i → b.s = i ∧ b ∈ CH := fun b hb => by
        unfold svcCh at hb
        rw [List.mem_filter, beq_iff_eq] at hb
        exact ⟨hb.2, hb.1⟩
      have hsf := svc_fleet c f t CH i
      have hSVl : (svcCh CH i).length ≤ 63 := by have := List.length_filter_le (fun b : Stp => b.s == i) CH; unfold svcCh; omega
      have hrng := fleet_rng hlv hf ht hlt hCn hCk
      have hadd := fun ch a => vec_add hlv hf ht (ch := ch) (a := a) hlt
      generalize svcCh CH i = SV at *
      generalize outL c f t CH i = O at *
      generalize eachL f t CH = EL at *
      have hat : ∀ (p : Int × Int), (((O.set i p).map pcT).map AV.tr ++ List.replicate ku AV.unk)[((i : Nat) : Int).toNat * 1]? = some (.tr (pcT p)) := fun p => by
        rw [Int.toNat_natCast, Nat.mul_one, List.getElem?_append_left (by rw [List.length_map, List.length_map, List.length_set]; omega), List.getElem?_map, List.getElem?_map, List.getElem?_set_self (by omega)]; rfl
      have hst : ∀ (p p' : Int × Int), (((O.set i p).map pcT).map AV.tr ++ List.replicate ku AV.unk).set (((i : Nat) : Int).toNat * 1) (.tr (pcT p')) = ((O.set i p').map pcT).map AV.tr ++ List.replicate ku AV.unk := fun p p' => by
        rw [Int.toNat_natCast, Nat.mul_one, List.set_append_left _ _ (by rw [List.length_map, List.length_map, List.length_set]; omega), List.map_set, List.map_set, List.map_set, List.map_set, List.set_set]
      have hln : ∀ (p : Int × Int), i < (((O.set i p).map pcT).map AV.tr ++ List.replicate ku AV.unk).length := fun p => by
        rw [List.length_append, List.length_map, List.length_map, List.length_set]; omega
      refine Tr.loopS (fun j : Nat => [(.s 8, .sl (.l 1000) f.length cap), (.l 1000, .blk 84 (((O.set i (fleetAt c f t (SV.take j) i)).map pcT).map AV.tr ++ List.replicate ku AV.unk)), (.s 100, .sl (.l 46) f.length f.length), (.l 46, .blk 79 EL), (.s 101, int f.length), (.s 102, int i), (.s 17, int i), (.s 107, .tr (.ls (SV.map (vecT f t)))), (.s 108, int (SV.map (vecT f t)).length), (.s 109, int j)]) (fun j => SV.length - j) (fun j => j ≤ SV.length)
        0 (by omega) (Sub.app (l := [_, _, _, _, _, _, _, _, _, _]) (H := []) ⟨rfl, by rw [List.take_zero, hs0]; rfl, rfl, rfl, rfl, rfl, rfl, rfl, rfl, rfl, trivial⟩ (fun κ v h => nomatch h)) ?_
      rintro j hj
      repeat' (first|refine zS ?_|refine zR ?_|refine zE tab_ok rfl rfl ?_|refine zN ?_|(refine zG rfl rfl (fun _ => ?_) fun _ => ?_)<;>refine zE tab_ok rfl rfl ?_|(refine zC rfl (fun _ => ?_) fun _ => ?_)<;>try (rename_i h; cases h; done)|refine zB ?_|refine zK ?_|refine zZ ⟨_, rfl, ?_⟩)
      · rename_i h4
        have h4 : decide ((j : Int) < ((SV.map (vecT f t)).length : Int)) = true := h4
        have hjl : j < SV.length := by simp only [List.length_map, decide_eq_true_eq] at h4; omega
        obtain ⟨a, ha⟩ : ∃ a, SV[j]? = some a := ⟨_, List.getElem?_eq_getElem hjl⟩
        have htk : SV.take (j + 1) = SV.take j ++ [a] := by rw [List.take_add_one, ha]; rfl
        obtain ⟨hsa, ham⟩ := hsvs a (List.mem_of_getElem? ha)
        obtain ⟨x, y, hxy, hb⟩ := hadd (SV.take j) a hsa (hCk a ham) (by rw [← htk]; exact hsvn.sublist (List.take_sublist ..)) (by rw [← htk]; intro b hb; exact hCk b (hsvs b (List.mem_of_mem_take hb)).2)
        rw [← htk] at hb
        have hae : (SV.map (vecT f t))[((j : Nat) : Int).toNat]? = some (.sc (.complex .f64 x y)) := by simp [ha, hxy]
        have hst2 := hst (fleetAt c f t (SV.take j) i) (fleetAt c f t (SV.take (j + 1)) i)
        have hat2 := hat (fleetAt c f t (SV.take j) i)
        have hln2 := hln (fleetAt c f t (SV.take j) i)
        generalize fleetAt c f t (SV.take j) i = P at *
        obtain ⟨P1, P2⟩ := P
        refine zI (x := .sc (.complex .f64 x y)) tab_ok rfl (by omega) (hae) rfl ?_
        repeat' (first|refine zS ?_|refine zR ?_|refine zE tab_ok rfl rfl ?_|refine zN ?_|(refine zG rfl rfl (fun _ => ?_) fun _ => ?_)<;>refine zE tab_ok rfl rfl ?_|(refine zC rfl (fun _ => ?_) fun _ => ?_)<;>try (rename_i h; cases h; done)|refine zB ?_|refine zK ?_|refine zZ ⟨_, rfl, ?_⟩)
        refine Sq.indexS (j := ((i : Nat) : Int)) (len := f.length) tab_ok rfl (by omega) (by omega) ?_
        refine Sq.loadS (v := .tr (pcT (P1, P2))) tab_ok rfl hat2 ?_
        refine zE tab_ok rfl rfl ?_
        refine Sq.cbin rfl hb ?_
        refine Sq.indexS (j := ((i : Nat) : Int)) (len := f.length) tab_ok rfl (by omega) (by omega) ?_
        refine Sq.storeS tab_ok rfl (by rw [Int.toNat_natCast, Nat.mul_one]; exact hln2) ?_
        repeat' (first|refine zS ?_|refine zR ?_|refine zE tab_ok rfl rfl ?_|refine zN ?_|(refine zG rfl rfl (fun _ => ?_) fun _ => ?_)<;>refine zE tab_ok rfl rfl ?_|(refine zC rfl (fun _ => ?_) fun _ => ?_)<;>try (rename_i h; cases h; done)|refine zB ?_|refine zK ?_|refine zZ ⟨_, rfl, ?_⟩)
        exact ⟨j + 1, by omega, by omega, Sub.app (l := [_, _, _, _, _, _, _, _, _, _]) (H := []) ⟨rfl, congrArg some (congrArg (AV.blk _) hst2), rfl, rfl, rfl, rfl, rfl, rfl, rfl, congrArg some (wrapz (by omega) (by omega) (by omega)), trivial⟩ (fun κ v h => nomatch h)⟩
      · rename_i h4
        have h4 : decide ((j : Int) < ((SV.map (vecT f t)).length : Int)) = false := h4
        have : j = SV.length := by simp only [List.length_map, decide_eq_false_iff_not] at h4; omega
        subst this
        rw [List.take_of_length_le (Nat.le_refl _), hsf]
        have hat2 := hat (fleetAt c f t CH i)
        rw [hs1] at hat2 ⊢
        have hPt := Parts_ok _ _ _ _ (OkX.of (v := (fleetAt c f t CH i).1) (by omega) (by omega)) (OkX.of (v := (fleetAt c f t CH i).2) (by omega) (by omega))
        rw [if_pos ⟨hrng.1.1, hrng.2.1⟩] at hPt
        generalize fleetAt c f t CH i = P at *
        obtain ⟨P1, P2⟩ := P
        have hPt : Fn Tryz.prog Gw 69 [.tr (pcT (P1, P2))] [] (· = .tup [int P1, int P2, int 0]) := hPt
        generalize pcT (P1, P2) = X at *
        refine Tr.exit ?_
        repeat' (first|refine zS ?_|refine zR ?_|refine zE tab_ok rfl rfl ?_|refine zN ?_|(refine zG rfl rfl (fun _ => ?_) fun _ => ?_)<;>refine zE tab_ok rfl rfl ?_|(refine zC rfl (fun _ => ?_) fun _ => ?_)<;>try (rename_i h; cases h; done)|refine zB ?_|refine zK ?_|refine zZ ⟨_, rfl, ?_⟩)
        refine Sq.indexS (j := ((i : Nat) : Int)) (len := f.length) tab_ok rfl (by omega) (by omega) ?_
        refine Sq.loadS (v := .tr X) tab_ok rfl hat2 ?_
        refine Sq.callv rfl (hPt) ?_
        repeat' (first|refine zS ?_|refine zR ?_|refine zE tab_ok rfl rfl ?_|refine zN ?_|(refine zG rfl rfl (fun _ => ?_) fun _ => ?_)<;>refine zE tab_ok rfl rfl ?_|(refine zC rfl (fun _ => ?_) fun _ => ?_)<;>try (rename_i h; cases h; done)|refine zB ?_|refine zK ?_|refine zZ ⟨_, rfl, ?_⟩)
        exact ⟨i + 1, by omega, by omega, Sub.app (l := [_, _, _, _, _, _]) (H := []) ⟨rfl, rfl, rfl, rfl, rfl, congrArg some (wrapz (by omega) (by omega) (by omega)), trivial⟩ (fun κ v h => nomatch h)⟩
    · rename_i h3
      have : i = f.length := by have := of_decide_eq_false h3; omega
      subst this
      have hol := outL_len c f t CH f.length
      rw [← outL_full c f t CH]
      generalize outL c f t CH f.length = O at *
      refine Tr.exit ?_
      refine Tr.sub (m' := [(.s 8, .sl (.l 1000) f.length cap), (.l 1000, .blk 84 ((O.map pcT).map AV.tr ++ List.replicate ku AV.unk))]) ⟨rfl, rfl, trivial⟩ ?_
      refine Tr.turn (fun Γ a w h => RelX.freeze (es := 1) (xs := O.map pcT) (cap := cap) (len := f.length) (cells := (O.map pcT).map AV.tr ++ List.replicate ku AV.unk) h (s := 8) (κ := .l 1000) rfl rfl rfl (by rw [List.length_map]; exact hol) (by rw [List.length_append, List.length_map, List.length_map]; omega) (by intro x hx; obtain ⟨a, _, rfl⟩ := List.mem_map.1 hx; rfl) ?_) ?_
      · intro i' j x y hx hy
        have hm := List.mem_of_getElem? hx
        obtain ⟨z, _, rfl⟩ := List.mem_map.1 hm
        cases j with
        | succ j => simp [T.cells] at hy
        | zero =>
          obtain rfl : pcT z = y := by simpa [T.cells] using hy
          have hil : i' < (O.map pcT).length := (List.getElem?_eq_some_iff.1 hx).1
          exact ⟨.tr (pcT z), by rw [Nat.mul_one, Nat.add_zero, List.getElem?_append_left (by rw [List.length_map]; exact hil), List.getElem?_map, hx]; rfl, rfl⟩
      repeat' (first|refine zS ?_|refine zR ?_|refine zE tab_ok rfl rfl ?_|refine zN ?_|(refine zG rfl rfl (fun _ => ?_) fun _ => ?_)<;>refine zE tab_ok rfl rfl ?_|(refine zC rfl (fun _ => ?_) fun _ => ?_)<;>try (rename_i h; cases h; done)|refine zB ?_|refine zK ?_|refine zZ ⟨_, rfl, ?_⟩)
      rfl
end Go.Lg.Tryz

set_option linter.unusedVariables false
set_option linter.unusedSimpArgs false
namespace Go.Lg.Tryz
open Go Go.Proofs Go.RowKit Go.Lib Go.Lg.Sem
theorem Same_ok (L : List (Int × Int)) (hL : L.length ≤ 1000) (hb : ∀ p, p ∈ L → (0 ≤ p.1 ∧ p.1 ≤ 11) ∧ 0 ≤ p.2 ∧ p.2 ≤ 2002) : Fn Tryz.prog Gw 33 [.tr (.ls (L.map pcT)), .tr (.ls (L.map pcT))] [] (· = bool true) := by
  refine Fn.of tab_ok Tryz.func33 rfl (by decide) (by simp [Tryz.f33]) rfl (fun κ v h => by cases h) Gw.below ?_
  repeat' (first|refine zS ?_|refine zR ?_|refine zE tab_ok rfl rfl ?_|refine zN ?_|(refine zG rfl rfl (fun _ => ?_) fun _ => ?_)<;>refine zE tab_ok rfl rfl ?_|(refine zC rfl (fun _ => ?_) fun _ => ?_)<;>try (rename_i h; cases h; done)|refine zB ?_|refine zK ?_|refine zZ ⟨_, rfl, ?_⟩)
  · rename_i h1
    exfalso
    have h1 : (((L.map pcT).length : Int) != ((L.map pcT).length : Int)) = true := h1
    simp at h1
  refine Tr.loopS (fun i : Nat => [(.s 1, .tr (.ls (L.map pcT))), (.s 12, .tr (.ls (L.map pcT))), (.s 13, int (L.map pcT).length), (.s 14, int i)]) (fun i => L.length - i) (fun i => i ≤ L.length)
    0 (by omega) (Sub.app (l := [_, _, _, _]) (H := []) ⟨rfl, rfl, rfl, rfl, trivial⟩ (fun κ v h => nomatch h)) ?_
  rintro i hi
  repeat' (first|refine zS ?_|refine zR ?_|refine zE tab_ok rfl rfl ?_|refine zN ?_|(refine zG rfl rfl (fun _ => ?_) fun _ => ?_)<;>refine zE tab_ok rfl rfl ?_|(refine zC rfl (fun _ => ?_) fun _ => ?_)<;>try (rename_i h; cases h; done)|refine zB ?_|refine zK ?_|refine zZ ⟨_, rfl, ?_⟩)
  · rename_i h2
    have h2 : decide ((i : Int) < ((L.map pcT).length : Int)) = true := h2
    have hlt : i < L.length := by simp only [List.length_map, decide_eq_true_eq] at h2; omega
    obtain ⟨p, hp⟩ : ∃ x, L[i]? = some x := ⟨_, List.getElem?_eq_getElem hlt⟩
    have hpe : (L.map pcT)[((i : Nat) : Int).toNat]? = some (.sc (.complex .f64 (floatOfInt .f64 p.1) (floatOfInt .f64 p.2))) := by simp [hp]
    obtain ⟨p1, p2⟩ := hb p (List.mem_of_getElem? hp)
    have hcc := ccmp_same (OkX.of (v := p.1) (by omega) (by omega)) (OkX.of (v := p.2) (by omega) (by omega))
    generalize floatOfInt .f64 p.1 = F1 at *
    generalize floatOfInt .f64 p.2 = F2 at *
    refine zI (x := .sc (.complex .f64 F1 F2)) tab_ok rfl (by omega) (hpe) rfl ?_
    repeat' (first|refine zS ?_|refine zR ?_|refine zE tab_ok rfl rfl ?_|refine zN ?_|(refine zG rfl rfl (fun _ => ?_) fun _ => ?_)<;>refine zE tab_ok rfl rfl ?_|(refine zC rfl (fun _ => ?_) fun _ => ?_)<;>try (rename_i h; cases h; done)|refine zB ?_|refine zK ?_|refine zZ ⟨_, rfl, ?_⟩)
    refine zI (x := .sc (.complex .f64 F1 F2)) tab_ok rfl (by omega) (hpe) rfl ?_
    repeat' (first|refine zS ?_|refine zR ?_|refine zE tab_ok rfl rfl ?_|refine zN ?_|(refine zG rfl rfl (fun _ => ?_) fun _ => ?_)<;>refine zE tab_ok rfl rfl ?_|(refine zC rfl (fun _ => ?_) fun _ => ?_)<;>try (rename_i h; cases h; done)|refine zB ?_|refine zK ?_|refine zZ ⟨_, rfl, ?_⟩)
    refine Sq.ccmp (b := false) rfl hcc ?_
    repeat' (first|refine zS ?_|refine zR ?_|refine zE tab_ok rfl rfl ?_|refine zN ?_|(refine zG rfl rfl (fun _ => ?_) fun _ => ?_)<;>refine zE tab_ok rfl rfl ?_|(refine zC rfl (fun _ => ?_) fun _ => ?_)<;>try (rename_i h; cases h; done)|refine zB ?_|refine zK ?_|refine zZ ⟨_, rfl, ?_⟩)
    exact ⟨i + 1, by omega, by omega, Sub.app (l := [_, _, _, _]) (H := []) ⟨rfl, rfl, rfl, congrArg some (wrapz (by omega) (by omega) (by omega)), trivial⟩ (fun κ v h => nomatch h)⟩
  · refine Tr.exit ?_
    repeat' (first|refine zS ?_|refine zR ?_|refine zE tab_ok rfl rfl ?_|refine zN ?_|(refine zG rfl rfl (fun _ => ?_) fun _ => ?_)<;>refine zE tab_ok rfl rfl ?_|(refine zC rfl (fun _ => ?_) fun _ => ?_)<;>try (rename_i h; cases h; done)|refine zB ?_|refine zK ?_|refine zZ ⟨_, rfl, ?_⟩)
    rfl
end Go.Lg.Tryz

set_option linter.unusedVariables false
set_option linter.unusedSimpArgs false
namespace Go.Lg.Tryz
open Go Go.Proofs Go.RowKit Go.Lib Go.Lg.Sem
set_option maxRecDepth 8192 in
theorem Fleet_bad {c : Ctl} (hc : c.length ≤ 12) (hlv : LvOk c) {f t : List Int} (hf : rightV c f = true) (ht : rightV c t = true) (l : List Stp) (e : List (Nat × Nat)) (hl : l.length ≤ 63) (hf1 : 1 ≤ f.length) (hnd : l.Nodup) (hin : ∀ a, a ∈ l → a.s < f.length ∧ (a.k = 1 ∨ a.k = 2 ∨ a.k = 3)) (g : BitVec 64) (hg : ∃ j, l.length ≤ j ∧ g.getLsbD j = true) :
    Fn Tryz.prog Gw 31 [.tr (ctlT c), .tr (plnT ⟨f, t, l, e⟩), u64 g] [] (· = .tup [.tr (.ls []), int 71]) := by
  have hS := SettledR_ok (by omega) hlv hf
  rw [← pls_t] at hS
  have hS2 := Settled_ok (by omega) hlv t
  have hA2 : settledA c t = .tup [.tr (.ls ((pls c t).map plT)), int 0] := by unfold settledA; rw [ht, pls_t]; rfl
  rw [hA2] at hS2
  obtain ⟨hfl, hfa⟩ := rightV_at hf
  obtain ⟨htl, hta⟩ := rightV_at ht
  have hpl : (pls c f).length = f.length := by unfold pls; simp
  refine Fn.of tab_ok Tryz.func31 rfl (by decide) (by simp [Tryz.f31]) rfl (fun κ v h => by cases h) Gw.below ?_
  refine zS ?_
  refine zR ?_
  refine zE tab_ok rfl rfl ?_
  refine zE tab_ok rfl rfl ?_
  refine zE tab_ok rfl rfl ?_
  refine zE tab_ok rfl rfl ?_
  refine zN ?_
  refine zS ?_
  refine zR ?_
  refine zE tab_ok rfl rfl ?_
  refine zE tab_ok rfl rfl ?_
  refine zE tab_ok rfl rfl ?_
  refine Sq.callv rfl (hS) ?_
  refine Sq.take rfl ?_
  refine Sq.extractR rfl ?_
  refine zE tab_ok rfl rfl ?_
  refine zE tab_ok rfl rfl ?_
  refine zE tab_ok rfl rfl ?_
  refine zN ?_
  refine zS ?_
  refine zS ?_
  refine zR ?_
  refine zE tab_ok rfl rfl ?_
  refine zE tab_ok rfl rfl ?_
  refine zE tab_ok rfl rfl ?_
  refine Sq.callv rfl (hS2) ?_
  refine zE tab_ok rfl rfl ?_
  refine zE tab_ok rfl rfl ?_
  refine zE tab_ok rfl rfl ?_
  refine zE tab_ok rfl rfl ?_
  refine zE tab_ok rfl rfl ?_
  refine zN ?_
  refine zS ?_
  refine Tr.sub (m' := [(.s 2, u64 g), (.s 3, .ptr (.l 3) 0), (.l 3, .blk 24 [.tr (.ls (c.map svcT))]), (.s 4, .ptr (.l 4) 0), (.l 4, .blk 35 [.tr (.ls (f.map intT)), .tr (.ls (t.map intT)), .tr (.ls (l.map stpT)), .tr (.ls (e.map edT))]), (.s 9, int 0), (.s 11, int 0), (.s 8, .raw 84 true ((pls c f).map plT))]) ⟨rfl, rfl, rfl, rfl, rfl, rfl, rfl, rfl, trivial⟩ ?_
  refine Tr.thaw tab_ok 8 (.l 1000) (xs := (pls c f).map plT) rfl (by intro h; have := congrArg List.length h; rw [List.length_map, hpl, List.length_nil] at this; omega) rfl (by decide) rfl rfl ?_
  intro cap hcap
  rw [flat_one (by intro x hx; obtain ⟨a, _, rfl⟩ := List.mem_map.1 hx; rfl)]
  generalize (cap - ((pls c f).map plT).length) * 1 = ku
  rw [List.length_map, hpl] at hcap ⊢
  repeat' (first|refine zS ?_|refine zR ?_|refine zE tab_ok rfl rfl ?_|refine zN ?_|(refine zG rfl rfl (fun _ => ?_) fun _ => ?_)<;>refine zE tab_ok rfl rfl ?_|(refine zC rfl (fun _ => ?_) fun _ => ?_)<;>try (rename_i h; cases h; done)|refine zB ?_|refine zK ?_|refine zZ ⟨_, rfl, ?_⟩)
  refine Sq.lenS tab_ok rfl ?_
  refine Sq.make tab_ok rfl rfl (by omega) (by omega) (by omega) (by simp [-List.map_map, freshB, pinB, refsM, AV.refs, refsL_pad, refsL_tr, refsL, Loc.eqb]; try decide) ?_
  refine zE tab_ok rfl rfl ?_
  refine zN ?_
  repeat' (first|refine zS ?_|refine zR ?_|refine zE tab_ok rfl rfl ?_|refine zN ?_|(refine zG rfl rfl (fun _ => ?_) fun _ => ?_)<;>refine zE tab_ok rfl rfl ?_|(refine zC rfl (fun _ => ?_) fun _ => ?_)<;>try (rename_i h; cases h; done)|refine zB ?_|refine zK ?_|refine zZ ⟨_, rfl, ?_⟩)
  refine Tr.loopS (fun k : Nat => [(.s 2, u64 g), (.s 3, .ptr (.l 3) 0), (.l 3, .blk 24 [.tr (.ls (c.map svcT))]), (.s 4, .ptr (.l 4) 0), (.l 4, .blk 35 [.tr (.ls (f.map intT)), .tr (.ls (t.map intT)), .tr (.ls (l.map stpT)), .tr (.ls (e.map edT))]), (.s 8, .sl (.l 1000) f.length cap), (.l 1000, .blk 84 (((pls c f).map plT).map AV.tr ++ List.replicate ku AV.unk)), (.s 12, .sl (.l 46) f.length f.length), (.l 46, .blk 79 (eachL f t (chs g l k))), (.s 47, int k)]) (fun k => 64 - k) (fun k => k ≤ 64 ∧ ∀ j, l.length ≤ j → j < k → g.getLsbD j = false)
    0 ⟨by omega, by intro j _ hj; omega⟩ (Sub.app (l := [_, _, _, _, _, _, _, _, _, _]) (H := []) ⟨rfl, rfl, rfl, rfl, rfl, rfl, rfl, rfl, by rw [show chs g l 0 = [] from rfl, eachL_nil]; rfl, rfl, trivial⟩ (fun κ v h => nomatch h)) ?_
  rintro k ⟨hk, hno⟩
  repeat' (first|refine zS ?_|refine zR ?_|refine zE tab_ok rfl rfl ?_|refine zN ?_|(refine zG rfl rfl (fun _ => ?_) fun _ => ?_)<;>refine zE tab_ok rfl rfl ?_|(refine zC rfl (fun _ => ?_) fun _ => ?_)<;>try (rename_i h; cases h; done)|refine zB ?_|refine zK ?_|refine zZ ⟨_, rfl, ?_⟩)
  · rename_i h2
    have hlt : k < 64 := by have := of_decide_eq_true h2; omega
    refine Sq.shift rfl g k rfl rfl (by omega) ?_
    refine Sq.bits rfl (g >>> k) 1#64 (r := g >>> k &&& 1#64) rfl rfl rfl ?_
    refine zE tab_ok rfl rfl ?_
    refine zN ?_
    refine zC rfl (fun h3 => ?_) (fun h3 => ?_)
    · have h3 : (((g >>> k &&& 1#64).toNat : Int) == 0) = true := h3
      rw [bit1_0, Bool.not_eq_true'] at h3
      refine Tr.exit ?_
      repeat' (first|refine zS ?_|refine zR ?_|refine zE tab_ok rfl rfl ?_|refine zN ?_|(refine zG rfl rfl (fun _ => ?_) fun _ => ?_)<;>refine zE tab_ok rfl rfl ?_|(refine zC rfl (fun _ => ?_) fun _ => ?_)<;>try (rename_i h; cases h; done)|refine zB ?_|refine zK ?_|refine zZ ⟨_, rfl, ?_⟩)
      exact ⟨k + 1, ⟨by omega, fun j h1 h2 => by
        rcases Nat.lt_succ_iff_lt_or_eq.1 h2 with h4 | rfl
        · exact hno j h1 h4
        · exact h3⟩, by omega, Sub.app (l := [_, _, _, _, _, _, _, _, _, _]) (H := []) ⟨rfl, rfl, rfl, rfl, rfl, rfl, rfl, rfl, by rw [chs_f' h3]; rfl, congrArg some (wrapz (by omega) (by omega) (by omega)), trivial⟩ (fun κ v h => nomatch h)⟩
    · have h3 : (((g >>> k &&& 1#64).toNat : Int) == 0) = false := h3
      rw [bit1_0, Bool.not_eq_false'] at h3
      by_cases hkl : ¬ k < l.length
      · have hV := Vector_no f t l e (k : Int) (.inr (by omega))
        repeat' (first|refine zS ?_|refine zR ?_|refine zE tab_ok rfl rfl ?_|refine zN ?_|(refine zG rfl rfl (fun _ => ?_) fun _ => ?_)<;>refine zE tab_ok rfl rfl ?_|(refine zC rfl (fun _ => ?_) fun _ => ?_)<;>try (rename_i h; cases h; done)|refine zB ?_|refine zK ?_|refine zZ ⟨_, rfl, ?_⟩)
        refine Sq.callv rfl (hV) ?_
        repeat' (first|refine zS ?_|refine zR ?_|refine zE tab_ok rfl rfl ?_|refine zN ?_|(refine zG rfl rfl (fun _ => ?_) fun _ => ?_)<;>refine zE tab_ok rfl rfl ?_|(refine zC rfl (fun _ => ?_) fun _ => ?_)<;>try (rename_i h; cases h; done)|refine zB ?_|refine zK ?_|refine zZ ⟨_, rfl, ?_⟩)
        rfl
      have hkl : k < l.length := Classical.not_not.1 hkl
      obtain ⟨a, ha⟩ : ∃ a, l[k]? = some a := ⟨_, List.getElem?_eq_getElem hkl⟩
      have hae : (l.map stpT)[((k : Nat) : Int).toNat]? = some (stpT a) := by simp [ha]
      obtain ⟨a1, a2⟩ := hin a (List.mem_of_getElem? ha)
      obtain ⟨v, s, r, hv, hs, hv0, hr, hrel⟩ := hfa a.s a1
      obtain ⟨w, s', r', hw, hs', hw0, hr', hrel'⟩ := hta a.s (by omega)
      obtain ⟨hs12, hsl⟩ := hlv s (List.mem_of_getElem? hs)
      obtain ⟨hs12', _⟩ := hlv s' (List.mem_of_getElem? hs')
      have hvl := (List.getElem?_eq_some_iff.1 hr).1
      have hwl := (List.getElem?_eq_some_iff.1 hr').1
      have hV := Vector_ok f t l e ha (by omega) a2 hv hw (by omega) (by omega) (by omega) (by omega)
      have hsc : chs g l (k + 1) = chs g l k ++ [a] := by rw [chs_succ ha, h3]; rfl
      have hcl := chs_len g l k
      have hvl2 : (vecs f t (chs g l k) a.s).length ≤ 64 := by unfold vecs; rw [List.length_map]; have := List.length_filter_le (fun b : Stp => b.s == a.s) (chs g l k); omega
      have hset := fun z => eachL_set f t (chs g l k) a a1 z
      have hea := eachL_at f t (chs g l k) a1
      have hel := eachL_len f t (chs g l k)
      rw [← hsc] at hset
      have hrf : ∀ κ i (xs : List T), refsL κ ((eachL f t (chs g l k)).set i (AV.deg (.own 84 xs))) = false := fun κ i xs => eachL_refs f t _ κ i _ rfl
      generalize eachL f t (chs g l k) = EL at *
      generalize vecs f t (chs g l k) a.s = VS at *
      obtain ⟨vx, vy, hvt⟩ : ∃ vx vy, vecT f t a = .sc (.complex .f64 vx vy) := by unfold vecT; split <;> exact ⟨_, _, rfl⟩
      rw [hvt] at hset hV
      repeat' (first|refine zS ?_|refine zR ?_|refine zE tab_ok rfl rfl ?_|refine zN ?_|(refine zG rfl rfl (fun _ => ?_) fun _ => ?_)<;>refine zE tab_ok rfl rfl ?_|(refine zC rfl (fun _ => ?_) fun _ => ?_)<;>try (rename_i h; cases h; done)|refine zB ?_|refine zK ?_|refine zZ ⟨_, rfl, ?_⟩)
      refine Sq.callv rfl (hV) ?_
      repeat' (first|refine zS ?_|refine zR ?_|refine zE tab_ok rfl rfl ?_|refine zN ?_|(refine zG rfl rfl (fun _ => ?_) fun _ => ?_)<;>refine zE tab_ok rfl rfl ?_|(refine zC rfl (fun _ => ?_) fun _ => ?_)<;>try (rename_i h; cases h; done)|refine zB ?_|refine zK ?_|refine zZ ⟨_, rfl, ?_⟩)
      refine zI (x := stpT a) tab_ok rfl (by omega) (hae) rfl ?_
      repeat' (first|refine zS ?_|refine zR ?_|refine zE tab_ok rfl rfl ?_|refine zN ?_|(refine zG rfl rfl (fun _ => ?_) fun _ => ?_)<;>refine zE tab_ok rfl rfl ?_|(refine zC rfl (fun _ => ?_) fun _ => ?_)<;>try (rename_i h; cases h; done)|refine zB ?_|refine zK ?_|refine zZ ⟨_, rfl, ?_⟩)
      refine zI (x := stpT a) tab_ok rfl (by omega) (hae) rfl ?_
      repeat' (first|refine zS ?_|refine zR ?_|refine zE tab_ok rfl rfl ?_|refine zN ?_|(refine zG rfl rfl (fun _ => ?_) fun _ => ?_)<;>refine zE tab_ok rfl rfl ?_|(refine zC rfl (fun _ => ?_) fun _ => ?_)<;>try (rename_i h; cases h; done)|refine zB ?_|refine zK ?_|refine zZ ⟨_, rfl, ?_⟩)
      refine Sq.lenS tab_ok rfl ?_
      repeat' (first|refine zS ?_|refine zR ?_|refine zE tab_ok rfl rfl ?_|refine zN ?_|(refine zG rfl rfl (fun _ => ?_) fun _ => ?_)<;>refine zE tab_ok rfl rfl ?_|(refine zC rfl (fun _ => ?_) fun _ => ?_)<;>try (rename_i h; cases h; done)|refine zB ?_|refine zK ?_|refine zZ ⟨_, rfl, ?_⟩)
      · rename_i h4
        exfalso
        have h4 := of_decide_eq_true h4
        omega
      refine zI (x := stpT a) tab_ok rfl (by omega) (hae) rfl ?_
      repeat' (first|refine zS ?_|refine zR ?_|refine zE tab_ok rfl rfl ?_|refine zN ?_|(refine zG rfl rfl (fun _ => ?_) fun _ => ?_)<;>refine zE tab_ok rfl rfl ?_|(refine zC rfl (fun _ => ?_) fun _ => ?_)<;>try (rename_i h; cases h; done)|refine zB ?_|refine zK ?_|refine zZ ⟨_, rfl, ?_⟩)
      refine Sq.indexS (j := ((a.s : Nat) : Int)) (len := f.length) tab_ok rfl (by omega) (by omega) ?_
      refine Sq.loadT (v := .own 84 VS) tab_ok rfl (by rw [Int.toNat_natCast, Nat.mul_one]; exact hea) rfl ?_
      refine zE tab_ok rfl rfl ?_
      refine zE tab_ok rfl (by simp [-List.map_map, freshB, pinB, refsM, AV.refs, refsL_pad, refsL_tr, refsL, Loc.eqb, hrf]; try decide) ?_
      refine Sq.append tab_ok rfl (fun y hy => by simp only [List.mem_singleton] at hy; subst hy; rfl) (by simp; omega) ?_
      refine Sq.indexS (j := ((a.s : Nat) : Int)) (len := f.length) tab_ok rfl (by omega) (by omega) ?_
      refine Sq.storeT tab_ok rfl (by rw [List.length_set, hel, Int.toNat_natCast]; omega) ?_
      repeat' (first|refine zS ?_|refine zR ?_|refine zE tab_ok rfl rfl ?_|refine zN ?_|(refine zG rfl rfl (fun _ => ?_) fun _ => ?_)<;>refine zE tab_ok rfl rfl ?_|(refine zC rfl (fun _ => ?_) fun _ => ?_)<;>try (rename_i h; cases h; done)|refine zB ?_|refine zK ?_|refine zZ ⟨_, rfl, ?_⟩)
      exact ⟨k + 1, ⟨by omega, fun j h1 h2 => hno j h1 (by omega)⟩, by omega, Sub.app (l := [_, _, _, _, _, _, _, _, _, _]) (H := []) ⟨rfl, rfl, rfl, rfl, rfl, rfl, rfl, rfl, congrArg some (congrArg (AV.blk _) (by rw [← hset (AV.deg (.own 84 VS)), Int.toNat_natCast, Nat.mul_one])), congrArg some (wrapz (by omega) (by omega) (by omega)), trivial⟩ (fun κ v h => nomatch h)⟩
  · rename_i h2
    exfalso
    have h2 := of_decide_eq_false h2
    obtain ⟨j, h1, h3⟩ := hg
    rcases Nat.lt_or_ge j 64 with h | h
    · rw [hno j h1 (by omega)] at h3; cases h3
    · rw [BitVec.getLsbD_of_ge _ _ h] at h3; cases h3
theorem Numbers_ok (L : List (Int × Int)) (hL : L.length ≤ 1000) : Fn Tryz.prog Gw 37 [.tr (.ls (L.map pT'))] [] (· = .tr (.ls (L.map pcT))) := by
  refine Fn.of tab_ok Tryz.func37 rfl (by decide) (by simp [Tryz.f37]) rfl (fun κ v h => by cases h) Gw.below ?_
  repeat' (first|refine zS ?_|refine zR ?_|refine zE tab_ok rfl rfl ?_|refine zN ?_|(refine zG rfl rfl (fun _ => ?_) fun _ => ?_)<;>refine zE tab_ok rfl rfl ?_|(refine zC rfl (fun _ => ?_) fun _ => ?_)<;>try (rename_i h; cases h; done)|refine zB ?_|refine zK ?_|refine zZ ⟨_, rfl, ?_⟩)
  refine Tr.loopS (fun i : Nat => [(.s 3, .own 84 ((L.take i).map pcT)), (.s 6, .tr (.ls (L.map pT'))), (.s 7, int (L.map pT').length), (.s 8, int i)]) (fun i => L.length - i) (fun i => i ≤ L.length)
    0 (by omega) (Sub.app (l := [_, _, _, _]) (H := []) ⟨rfl, rfl, rfl, rfl, trivial⟩ (fun κ v h => nomatch h)) ?_
  rintro i hi
  repeat' (first|refine zS ?_|refine zR ?_|refine zE tab_ok rfl rfl ?_|refine zN ?_|(refine zG rfl rfl (fun _ => ?_) fun _ => ?_)<;>refine zE tab_ok rfl rfl ?_|(refine zC rfl (fun _ => ?_) fun _ => ?_)<;>try (rename_i h; cases h; done)|refine zB ?_|refine zK ?_|refine zZ ⟨_, rfl, ?_⟩)
  · rename_i h2
    have h2 : decide ((i : Int) < ((L.map pT').length : Int)) = true := h2
    have hlt : i < L.length := by simp only [List.length_map, decide_eq_true_eq] at h2; omega
    obtain ⟨p, hp⟩ : ∃ x, L[i]? = some x := ⟨_, List.getElem?_eq_getElem hlt⟩
    have hpe : (L.map pT')[((i : Nat) : Int).toNat]? = some (pT' p) := by simp [hp]
    have htk : L.take (i + 1) = L.take i ++ [p] := by rw [List.take_add_one, hp]; rfl
    have hN := Number_ok' p.1 p.2
    have hpc : pcT p = .sc (.complex .f64 (floatOfInt .f64 p.1) (floatOfInt .f64 p.2)) := rfl
    have htm : (L.take (i + 1)).map pcT = (L.take i).map pcT ++ [.sc (.complex .f64 (floatOfInt .f64 p.1) (floatOfInt .f64 p.2))] := by rw [htk, List.map_append]; rfl
    refine zI (x := pT' p) tab_ok rfl (by omega) (hpe) rfl ?_
    repeat' (first|refine zS ?_|refine zR ?_|refine zE tab_ok rfl rfl ?_|refine zN ?_|(refine zG rfl rfl (fun _ => ?_) fun _ => ?_)<;>refine zE tab_ok rfl rfl ?_|(refine zC rfl (fun _ => ?_) fun _ => ?_)<;>try (rename_i h; cases h; done)|refine zB ?_|refine zK ?_|refine zZ ⟨_, rfl, ?_⟩)
    refine Sq.callv rfl (hN) ?_
    repeat' (first|refine zS ?_|refine zR ?_|refine zE tab_ok rfl rfl ?_|refine zN ?_|(refine zG rfl rfl (fun _ => ?_) fun _ => ?_)<;>refine zE tab_ok rfl rfl ?_|(refine zC rfl (fun _ => ?_) fun _ => ?_)<;>try (rename_i h; cases h; done)|refine zB ?_|refine zK ?_|refine zZ ⟨_, rfl, ?_⟩)
    refine Sq.append tab_ok rfl (fun y hy => by simp only [List.mem_singleton] at hy; subst hy; rfl) (by simp; omega) ?_
    repeat' (first|refine zS ?_|refine zR ?_|refine zE tab_ok rfl rfl ?_|refine zN ?_|(refine zG rfl rfl (fun _ => ?_) fun _ => ?_)<;>refine zE tab_ok rfl rfl ?_|(refine zC rfl (fun _ => ?_) fun _ => ?_)<;>try (rename_i h; cases h; done)|refine zB ?_|refine zK ?_|refine zZ ⟨_, rfl, ?_⟩)
    exact ⟨i + 1, by omega, by omega, Sub.app (l := [_, _, _, _]) (H := []) ⟨by rw [htm]; rfl, rfl, rfl, congrArg some (wrapz (by omega) (by omega) (by omega)), trivial⟩ (fun κ v h => nomatch h)⟩
  · rename_i h2
    have h2 : decide ((i : Int) < ((L.map pT').length : Int)) = false := h2
    have : i = L.length := by simp only [List.length_map, decide_eq_false_iff_not] at h2; omega
    subst this
    rw [List.take_of_length_le (Nat.le_refl _)]
    refine Tr.exit ?_
    repeat' (first|refine zS ?_|refine zR ?_|refine zE tab_ok rfl rfl ?_|refine zN ?_|(refine zG rfl rfl (fun _ => ?_) fun _ => ?_)<;>refine zE tab_ok rfl rfl ?_|(refine zC rfl (fun _ => ?_) fun _ => ?_)<;>try (rename_i h; cases h; done)|refine zB ?_|refine zK ?_|refine zZ ⟨_, rfl, ?_⟩)
    rfl
end Go.Lg.Tryz

set_option linter.unusedVariables false
set_option linter.unusedSimpArgs false
namespace Go.Lg.Tryz
open Go Go.Proofs Go.RowKit Go.Lib Go.Lg.Sem
theorem shr_zero (g : BitVec 64) (n : Nat) : (((g >>> n).toNat : Int) != 0) = true ↔ ∃ j, n ≤ j ∧ g.getLsbD j = true := by
  rw [bne_iff_ne]
  constructor
  · intro h
    have : g >>> n ≠ 0#64 := fun e => by rw [e] at h; simp at h
    obtain ⟨i, hi⟩ := bv_ne.1 this
    rw [BitVec.getLsbD_ushiftRight] at hi
    exact ⟨n + i, by omega, hi⟩
  · rintro ⟨j, hj, h⟩ e
    have : g >>> n = 0#64 := by
      apply BitVec.eq_of_toNat_eq
      generalize g >>> n = x at *
      show x.toNat = 0
      omega
    have h2 : (g >>> n).getLsbD (j - n) = true := by rw [BitVec.getLsbD_ushiftRight, show n + (j - n) = j by omega]; exact h
    rw [this] at h2
    simp at h2
theorem u64_ex {z : Int} (h : (Lit.int .u64 z).wf = true) : ∃ g : BitVec 64, z = (g.toNat : Int) := by
  have h : (decide ((0 : Int) ≤ z) && decide (z ≤ 18446744073709551615)) = true := h
  rw [Bool.and_eq_true, decide_eq_true_eq, decide_eq_true_eq] at h
  exact ⟨BitVec.ofNat 64 z.toNat, by rw [BitVec.toNat_ofNat, Nat.mod_eq_of_lt (by omega)]; omega⟩
theorem eq_small {v : Int} (h1 : -11 ≤ v) (h2 : v ≤ 11) : fcmpB .eql (floatOfInt .f64 v) (floatOfInt .f64 v) = some true := by
  have h : ((List.range 23).all fun n => fcmpB .eql (floatOfInt .f64 ((n : Int) - 11)) (floatOfInt .f64 ((n : Int) - 11)) == some true) = true := by kernel_rfl
  have h := List.all_eq_true.1 h (v + 11).toNat (List.mem_range.2 (by omega))
  rw [show (((v + 11).toNat : Nat) : Int) - 11 = v by omega] at h
  exact beq_iff_eq.1 h
theorem ccmp_eq {x y : Nat} (h1 : fcmpB .eql x x = some true) (h2 : fcmpB .eql y y = some true) : ccmpB .neq x y x y = some false := by
  have e1 : (FloatKind.f64.format.order x x == some .eq) = true := Option.some.inj h1
  have e2 : (FloatKind.f64.format.order y y == some .eq) = true := Option.some.inj h2
  simp only [ccmpB, e1, e2]; rfl
theorem ends_at {c : Ctl} {f t : List Int} (hlv : LvOk c) (hf : rightV c f = true) (ht : rightV c t = true) {i : Nat} (hi : i < f.length) :
    ∃ v w, f[i]? = some v ∧ t[i]? = some w ∧ vAt f i = v ∧ vAt t i = w ∧ (0 ≤ v ∧ v ≤ 11) ∧ (0 ≤ w ∧ w ≤ 11) := by
  obtain ⟨hfl, hfa⟩ := rightV_at hf
  obtain ⟨htl, hta⟩ := rightV_at ht
  obtain ⟨v, s, r, e1, e2, e3, e4, _⟩ := hfa i hi
  obtain ⟨w, s', r', d1, d2, d3, d4, _⟩ := hta i (by omega)
  obtain rfl : s = s' := Option.some.inj (e2.symm.trans d2)
  have hs := (hlv s (List.mem_of_getElem? e2)).1
  have b1 := (List.getElem?_eq_some_iff.1 e4).1
  have b2 := (List.getElem?_eq_some_iff.1 d4).1
  exact ⟨v, w, e1, d1, vAt_of e1, vAt_of d1, by omega, by omega⟩
set_option maxRecDepth 8192 in
set_option maxHeartbeats 1600000 in
theorem PlanFleets_ok (c : Ctl) (f t : List Int) (g : BitVec 64) (k : Int) : Fn Tryz.prog Gw 10 [.tr (ctlT c), .tr (.ls (f.map intT)), .tr (.ls (t.map intT)), u64 g, int k] [] (· = bool true) := by
  obtain ⟨cyc, hc⟩ := cyc_ex c
  have hA := planAnchor_ok
  have hM := catRight_ok c hc
  refine Fn.of tab_ok Tryz.func10 rfl (by decide) (by simp [Tryz.f10]) rfl (fun κ v h => by cases h) Gw.below ?_
  repeat' (first|refine zS ?_|refine zR ?_|refine zE tab_ok rfl rfl ?_|refine zN ?_|(refine zG rfl rfl (fun _ => ?_) fun _ => ?_)<;>refine zE tab_ok rfl rfl ?_|(refine zC rfl (fun _ => ?_) fun _ => ?_)<;>try (rename_i h; cases h; done)|refine zB ?_|refine zK ?_|refine zZ ⟨_, rfl, ?_⟩)
  refine Sq.callv rfl (hA) ?_
  repeat' (first|refine zS ?_|refine zR ?_|refine zE tab_ok rfl rfl ?_|refine zN ?_|(refine zG rfl rfl (fun _ => ?_) fun _ => ?_)<;>refine zE tab_ok rfl rfl ?_|(refine zC rfl (fun _ => ?_) fun _ => ?_)<;>try (rename_i h; cases h; done)|refine zB ?_|refine zK ?_|refine zZ ⟨_, rfl, ?_⟩)
  refine zL rfl hM ?_
  rintro _ ⟨q, rfl, hq⟩
  cases hs : smallC c && ((checkV c cyc).2.2 == 0)
  · repeat' (first|refine zS ?_|refine zR ?_|refine zE tab_ok rfl rfl ?_|refine zN ?_|(refine zG rfl rfl (fun _ => ?_) fun _ => ?_)<;>refine zE tab_ok rfl rfl ?_|(refine zC rfl (fun _ => ?_) fun _ => ?_)<;>try (rename_i h; cases h; done)|refine zB ?_|refine zK ?_|refine zZ ⟨_, rfl, ?_⟩)
    rfl
  have e := hq hs
  subst e
  rw [Bool.and_eq_true, beq_iff_eq] at hs
  obtain ⟨hs, hv⟩ := hs
  obtain ⟨hc1, hc2, hcy, _⟩ := right_of hv
  have hlv := levels_of hv
  have hok := ctl_ok hs
  obtain ⟨cy, hcy⟩ := cycP_ex (stepsV q f t).length (befV q f t)
  repeat' (first|refine zS ?_|refine zR ?_|refine zE tab_ok rfl rfl ?_|refine zN ?_|(refine zG rfl rfl (fun _ => ?_) fun _ => ?_)<;>refine zE tab_ok rfl rfl ?_|(refine zC rfl (fun _ => ?_) fun _ => ?_)<;>try (rename_i h; cases h; done)|refine zB ?_|refine zK ?_|refine zZ ⟨_, rfl, ?_⟩)
  · rfl
  · rfl
  rename_i g1 g2
  have g1 : decide (((f.map intT).length : Int) > 30) = false := g1
  rw [List.length_map] at g1
  have g1 := of_decide_eq_false g1
  have g2 : decide (((t.map intT).length : Int) > 30) = false := g2
  rw [List.length_map] at g2
  have g2 := of_decide_eq_false g2
  have h1 := Make_ok hok hc2 hlv f t cy hcy (by omega) (by omega)
  by_cases hz : makeZ q f t cy ≠ 0
  · have hP : makeP q f t cy = ⟨[], [], [], []⟩ := by unfold makeP; rw [if_neg hz]; rfl
    rw [hP] at h1
    generalize makeZ q f t cy = z at *
    refine Sq.callv rfl (h1) ?_
    repeat' (first|refine zS ?_|refine zR ?_|refine zE tab_ok rfl rfl ?_|refine zN ?_|(refine zG rfl rfl (fun _ => ?_) fun _ => ?_)<;>refine zE tab_ok rfl rfl ?_|(refine zC rfl (fun _ => ?_) fun _ => ?_)<;>try (rename_i h; cases h; done)|refine zB ?_|refine zK ?_|refine zZ ⟨_, rfl, ?_⟩)
    · rfl
    all_goals
      rename_i h
      have h : (z != 0) = false := h
      simp at h; exact absurd h hz
  have hz : makeZ q f t cy = 0 := Classical.not_not.1 hz
  have he : endsV q f t = 0 := by
    unfold makeZ at hz
    split at hz
    · assumption
    · exact hz
  have hcf : cy = false := by
    unfold makeZ at hz
    rw [if_pos he] at hz
    cases cy
    · rfl
    · simp at hz
  subst hcf
  have h1e : makeP q f t false = ⟨f, t, stepsV q f t, befV q f t⟩ := by unfold makeP; rw [if_pos hz]; rfl
  rw [hz, h1e] at h1
  have E := ends0 he
  have hfl := (rightV_at E.rf).1
  have htl := (rightV_at E.rt).1
  obtain ⟨b1, b2⟩ := bef_bound (c := q) (t := t) (f := f) (by omega)
  have hPl := plain_ok f t (stepsV q f t) (befV q f t) (by omega)
  have hnd := stepsUp_nodup q f t f.length
  have hin : ∀ a, a ∈ stepsV q f t → a.s < f.length ∧ (a.k = 1 ∨ a.k = 2 ∨ a.k = 3) := fun a ha => by
    obtain ⟨m1, m2⟩ := stepsUp_mem.1 ha
    exact ⟨m1, (stepsAt_mem m2).2⟩
  have hF0 := Fleet_bad hc2 hlv E.rf E.rt (stepsV q f t) (befV q f t) (by omega) (by omega) hnd hin g
  have hF1 := Fleet_ok hc2 hlv E.rf E.rt (stepsV q f t) (befV q f t) (by omega) (by omega) hnd hin g
  have hV0 := Vector_no f t (stepsV q f t) (befV q f t) k
  have hV1 := fun (n : Nat) (a : Stp) (ha : (stepsV q f t)[n]? = some a) (v w : Int) (hv : f[a.s]? = some v) (hw : t[a.s]? = some w) (b1 : 0 ≤ v ∧ v ≤ 11) (b2 : 0 ≤ w ∧ w ≤ 11) => Vector_ok f t (stepsV q f t) (befV q f t) ha (by omega) (hin a (List.mem_of_getElem? ha)).2 hv hw (by omega) (by omega) b1 b2
  have hRf := refFleet_ok (by omega) hlv E.rf E.rt (stepsV q f t) (befV q f t) (by omega) (fun a ha => ⟨(hin a ha).1, by have := (hin a ha).2; omega⟩) g
  have hNm := Numbers_ok (fleetL q f t (chs g (stepsV q f t) (stepsV q f t).length)) (by rw [fleetL_len]; omega)
  have hrg : ∀ p, p ∈ fleetL q f t (chs g (stepsV q f t) (stepsV q f t).length) → (0 ≤ p.1 ∧ p.1 ≤ 11) ∧ 0 ≤ p.2 ∧ p.2 ≤ 2002 := fun p hp => by
    unfold fleetL at hp
    obtain ⟨i, hi, rfl⟩ := List.mem_map.1 hp
    exact fleet_rng hlv E.rf E.rt (List.mem_range.1 hi) (chs_nodup hnd _) (fun b hb => (hin b (by obtain ⟨j, _, _, h⟩ := chs_mem.1 hb; exact List.mem_of_getElem? h)).2)
  have hSm := Same_ok (fleetL q f t (chs g (stepsV q f t) (stepsV q f t).length)) (by rw [fleetL_len]; omega) hrg
  have hLl : (fleetL q f t (chs g (stepsV q f t) (stepsV q f t).length)).length ≤ 1000 := by rw [fleetL_len]; omega
  have hml : ((stepsV q f t).map stpT).length = (stepsV q f t).length := List.length_map ..
  have hbd : ∀ (n : Nat) (a : Stp), (stepsV q f t)[n]? = some a → ∃ v w, f[a.s]? = some v ∧ t[a.s]? = some w ∧ vAt f a.s = v ∧ vAt t a.s = w ∧ (0 ≤ v ∧ v ≤ 11) ∧ (0 ≤ w ∧ w ≤ 11) := fun n a ha => ends_at hlv E.rf E.rt (hin a (List.mem_of_getElem? ha)).1
  have hml' : ((((stepsV q f t).map stpT).length : Nat) : Int) = ((stepsV q f t).length : Int) := by rw [List.length_map]
  have hsl : (stepsV q f t).length ≤ 36 := by omega
  generalize fleetL q f t (chs g (stepsV q f t) (stepsV q f t).length) = L at *
  generalize stepsV q f t = l at *
  generalize befV q f t = b at *
  refine Sq.callv rfl (h1) ?_
  repeat' (first|refine zS ?_|refine zR ?_|refine zE tab_ok rfl rfl ?_|refine zN ?_|(refine zG rfl rfl (fun _ => ?_) fun _ => ?_)<;>refine zE tab_ok rfl rfl ?_|(refine zC rfl (fun _ => ?_) fun _ => ?_)<;>try (rename_i h; cases h; done)|refine zB ?_|refine zK ?_|refine zZ ⟨_, rfl, ?_⟩)
  refine Sq.callv rfl (hPl) ?_
  repeat' (first|refine zS ?_|refine zR ?_|refine zE tab_ok rfl rfl ?_|refine zN ?_|(refine zG rfl rfl (fun _ => ?_) fun _ => ?_)<;>refine zE tab_ok rfl rfl ?_|(refine zC rfl (fun _ => ?_) fun _ => ?_)<;>try (rename_i h; cases h; done)|refine zB ?_|refine zK ?_|refine zZ ⟨_, rfl, ?_⟩)
  rcases Classical.em (∃ j, l.length ≤ j ∧ g.getLsbD j = true) with hb | hb
  · have hF := hF0 hb
    refine Sq.callv rfl (hF) ?_
    repeat' (first|refine zS ?_|refine zR ?_|refine zE tab_ok rfl rfl ?_|refine zN ?_|(refine zG rfl rfl (fun _ => ?_) fun _ => ?_)<;>refine zE tab_ok rfl rfl ?_|(refine zC rfl (fun _ => ?_) fun _ => ?_)<;>try (rename_i h; cases h; done)|refine zB ?_|refine zK ?_|refine zZ ⟨_, rfl, ?_⟩)
    rcases Classical.em (k < 0 ∨ (l.length : Int) ≤ k) with hk | hk
    · have hV := hV0 hk
      refine Sq.callv rfl (hV) ?_
      repeat' (first|refine zS ?_|refine zR ?_|refine zE tab_ok rfl rfl ?_|refine zN ?_|(refine zG rfl rfl (fun _ => ?_) fun _ => ?_)<;>refine zE tab_ok rfl rfl ?_|(refine zC rfl (fun _ => ?_) fun _ => ?_)<;>try (rename_i h; cases h; done)|refine zB ?_|refine zK ?_|refine zZ ⟨_, rfl, ?_⟩)
      · refine Sq.ccmp (b := false) rfl rfl ?_
        repeat' (first|refine zS ?_|refine zR ?_|refine zE tab_ok rfl rfl ?_|refine zN ?_|(refine zG rfl rfl (fun _ => ?_) fun _ => ?_)<;>refine zE tab_ok rfl rfl ?_|(refine zC rfl (fun _ => ?_) fun _ => ?_)<;>try (rename_i h; cases h; done)|refine zB ?_|refine zK ?_|refine zZ ⟨_, rfl, ?_⟩)
        · refine Sq.shift rfl g l.length rfl hml' (by omega) ?_
          repeat' (first|refine zS ?_|refine zR ?_|refine zE tab_ok rfl rfl ?_|refine zN ?_|(refine zG rfl rfl (fun _ => ?_) fun _ => ?_)<;>refine zE tab_ok rfl rfl ?_|(refine zC rfl (fun _ => ?_) fun _ => ?_)<;>try (rename_i h; cases h; done)|refine zB ?_|refine zK ?_|refine zZ ⟨_, rfl, ?_⟩)
          · rfl
          · exfalso
            rename_i h
            have h : (((g >>> l.length).toNat : Int) != 0) = false := h
            rw [(shr_zero g l.length).2 hb] at h; cases h
        · exfalso
          rename_i h h2
          have h : decide ((((l.map stpT).length : Nat) : Int) < 64) = false := h
          rw [hml] at h
          have h := of_decide_eq_false h
          omega

      · refine Sq.ccmp (b := false) rfl rfl ?_
        repeat' (first|refine zS ?_|refine zR ?_|refine zE tab_ok rfl rfl ?_|refine zN ?_|(refine zG rfl rfl (fun _ => ?_) fun _ => ?_)<;>refine zE tab_ok rfl rfl ?_|(refine zC rfl (fun _ => ?_) fun _ => ?_)<;>try (rename_i h; cases h; done)|refine zB ?_|refine zK ?_|refine zZ ⟨_, rfl, ?_⟩)
        · refine Sq.shift rfl g l.length rfl hml' (by omega) ?_
          repeat' (first|refine zS ?_|refine zR ?_|refine zE tab_ok rfl rfl ?_|refine zN ?_|(refine zG rfl rfl (fun _ => ?_) fun _ => ?_)<;>refine zE tab_ok rfl rfl ?_|(refine zC rfl (fun _ => ?_) fun _ => ?_)<;>try (rename_i h; cases h; done)|refine zB ?_|refine zK ?_|refine zZ ⟨_, rfl, ?_⟩)
          · rfl
          · exfalso
            rename_i h
            have h : (((g >>> l.length).toNat : Int) != 0) = false := h
            rw [(shr_zero g l.length).2 hb] at h; cases h
        · exfalso
          rename_i h h2
          have h : decide ((((l.map stpT).length : Nat) : Int) < 64) = false := h
          rw [hml] at h
          have h := of_decide_eq_false h
          omega

      · exfalso
        rename_i a1 a2
        have a1 : decide (k < 0) = false := a1
        have a2 : decide (k ≥ (((l.map stpT).length : Nat) : Int)) = false := a2
        rw [hml] at a2
        have a1 := of_decide_eq_false a1
        have a2 := of_decide_eq_false a2
        omega
    obtain ⟨n, rfl⟩ : ∃ n : Nat, k = n := ⟨k.toNat, by omega⟩
    obtain ⟨a, ha⟩ : ∃ a, l[n]? = some a := ⟨_, List.getElem?_eq_getElem (by omega)⟩
    have hae : (l.map stpT)[((n : Nat) : Int).toNat]? = some (stpT a) := by simp [ha]
    obtain ⟨v, w, hv, hw, ev, ew, b1, b2⟩ := hbd n a ha
    have hV := hV1 n a ha v w hv hw b1 b2
    have hve : (f.map intT)[((a.s : Nat) : Int).toNat]? = some (intT v) := by simp [hv]
    have hwe : (t.map intT)[((a.s : Nat) : Int).toNat]? = some (intT w) := by simp [hw]
    have kill : ∀ {b2 : Bool}, decide ((n : Int) ≥ (((l.map stpT).length : Nat) : Int)) = b2 → b2 = false := by
      intro b2 h2
      rw [hml] at h2
      subst h2
      exact decide_eq_false (by omega)
    by_cases hk2 : a.k = 2
    · have hvec : vecT f t a = .sc (.complex .f64 (floatOfInt .f64 (w - v)) (floatOfInt .f64 0)) := by unfold vecT; rw [if_pos hk2, ev, ew]
      have hN : Fn Tryz.prog Gw _ _ [] (· = .tr (.sc (.complex .f64 (floatOfInt .f64 (w - v)) (floatOfInt .f64 0)))) := Number_ok' (w - v) 0
      rw [hvec] at hV
      have hcc := ccmp_eq (eq_small (v := w - v) (by omega) (by omega)) (eq_small (v := 0) (by omega) (by omega))
      clear hvec
      generalize floatOfInt .f64 (w - v) = F1 at *
      generalize floatOfInt .f64 0 = F0 at *
      refine Sq.callv rfl (hV) ?_
      repeat' (first|refine zS ?_|refine zR ?_|refine zE tab_ok rfl rfl ?_|refine zN ?_|(refine zG rfl rfl (fun _ => ?_) fun _ => ?_)<;>refine zE tab_ok rfl rfl ?_|(refine zC rfl (fun _ => ?_) fun _ => ?_)<;>try (rename_i h; cases h; done)|refine zB ?_|refine zK ?_|refine zZ ⟨_, rfl, ?_⟩)
      · exfalso; rename_i h h2; have := kill h; cases this
      refine zI (x := stpT a) tab_ok rfl (by omega) (hae) rfl ?_
      repeat' (first|refine zS ?_|refine zR ?_|refine zE tab_ok rfl rfl ?_|refine zN ?_|(refine zG rfl rfl (fun _ => ?_) fun _ => ?_)<;>refine zE tab_ok rfl rfl ?_|(refine zC rfl (fun _ => ?_) fun _ => ?_)<;>try (rename_i h; cases h; done)|refine zB ?_|refine zK ?_|refine zZ ⟨_, rfl, ?_⟩)
      · refine Tr.drawn ( zD tab_ok rfl rfl <| zD tab_ok rfl rfl <| zD tab_ok rfl rfl <| zO rfl (fun q K hK => zI (x := intT w) tab_ok rfl (by omega) (hwe) rfl (zN hK)) <| zD tab_ok rfl rfl <| zD tab_ok rfl rfl <| zD tab_ok rfl rfl <| zD tab_ok rfl rfl <| zO rfl (fun q K hK => zI (x := intT v) tab_ok rfl (by omega) (hve) rfl (zN hK)) <| zD tab_ok rfl rfl <| DSq.evr tab_ok rfl (congrArg int (Go.IntWalk.i64_in (w - v) ⟨by omega, by omega⟩)) <| zD tab_ok rfl rfl <| zD tab_ok rfl rfl <| DSq.nil _) mix_ok rfl ?_
        repeat' (first|refine zS ?_|refine zR ?_|refine zE tab_ok rfl rfl ?_|refine zN ?_|(refine zG rfl rfl (fun _ => ?_) fun _ => ?_)<;>refine zE tab_ok rfl rfl ?_|(refine zC rfl (fun _ => ?_) fun _ => ?_)<;>try (rename_i h; cases h; done)|refine zB ?_|refine zK ?_|refine zZ ⟨_, rfl, ?_⟩)
        refine Sq.callv rfl (hN) ?_
        refine Sq.ccmp (b := false) rfl hcc ?_
        repeat' (first|refine zS ?_|refine zR ?_|refine zE tab_ok rfl rfl ?_|refine zN ?_|(refine zG rfl rfl (fun _ => ?_) fun _ => ?_)<;>refine zE tab_ok rfl rfl ?_|(refine zC rfl (fun _ => ?_) fun _ => ?_)<;>try (rename_i h; cases h; done)|refine zB ?_|refine zK ?_|refine zZ ⟨_, rfl, ?_⟩)
        · refine Sq.shift rfl g l.length rfl hml' (by omega) ?_
          repeat' (first|refine zS ?_|refine zR ?_|refine zE tab_ok rfl rfl ?_|refine zN ?_|(refine zG rfl rfl (fun _ => ?_) fun _ => ?_)<;>refine zE tab_ok rfl rfl ?_|(refine zC rfl (fun _ => ?_) fun _ => ?_)<;>try (rename_i h; cases h; done)|refine zB ?_|refine zK ?_|refine zZ ⟨_, rfl, ?_⟩)
          · rfl
          · exfalso
            rename_i h
            have h : (((g >>> l.length).toNat : Int) != 0) = false := h
            rw [(shr_zero g l.length).2 hb] at h; cases h
        · exfalso
          rename_i h h2
          have h : decide ((((l.map stpT).length : Nat) : Int) < 64) = false := h
          rw [hml] at h
          have h := of_decide_eq_false h
          omega

      · exfalso
        rename_i h
        have h : (((a.k : Nat) : Int) == 2) = false := h
        simp at h; omega
    have hvec : vecT f t a = .sc (.complex .f64 (floatOfInt .f64 0) (floatOfInt .f64 1)) := by unfold vecT; rw [if_neg hk2]
    have hN : Fn Tryz.prog Gw _ _ [] (· = .tr (.sc (.complex .f64 (floatOfInt .f64 0) (floatOfInt .f64 1)))) := Number_ok' 0 1
    rw [hvec] at hV
    have hcc := ccmp_eq (eq_small (v := 0) (by omega) (by omega)) (eq_small (v := 1) (by omega) (by omega))
    clear hvec
    generalize floatOfInt .f64 0 = F0 at *
    generalize floatOfInt .f64 1 = F1 at *
    refine Sq.callv rfl (hV) ?_
    repeat' (first|refine zS ?_|refine zR ?_|refine zE tab_ok rfl rfl ?_|refine zN ?_|(refine zG rfl rfl (fun _ => ?_) fun _ => ?_)<;>refine zE tab_ok rfl rfl ?_|(refine zC rfl (fun _ => ?_) fun _ => ?_)<;>try (rename_i h; cases h; done)|refine zB ?_|refine zK ?_|refine zZ ⟨_, rfl, ?_⟩)
    · exfalso; rename_i h h2; have := kill h; cases this
    refine zI (x := stpT a) tab_ok rfl (by omega) (hae) rfl ?_
    repeat' (first|refine zS ?_|refine zR ?_|refine zE tab_ok rfl rfl ?_|refine zN ?_|(refine zG rfl rfl (fun _ => ?_) fun _ => ?_)<;>refine zE tab_ok rfl rfl ?_|(refine zC rfl (fun _ => ?_) fun _ => ?_)<;>try (rename_i h; cases h; done)|refine zB ?_|refine zK ?_|refine zZ ⟨_, rfl, ?_⟩)
    · exfalso
      rename_i h
      have h : (((a.k : Nat) : Int) == 2) = true := h
      simp at h; omega
    · refine Sq.callv rfl (hN) ?_
      refine Sq.ccmp (b := false) rfl hcc ?_
      repeat' (first|refine zS ?_|refine zR ?_|refine zE tab_ok rfl rfl ?_|refine zN ?_|(refine zG rfl rfl (fun _ => ?_) fun _ => ?_)<;>refine zE tab_ok rfl rfl ?_|(refine zC rfl (fun _ => ?_) fun _ => ?_)<;>try (rename_i h; cases h; done)|refine zB ?_|refine zK ?_|refine zZ ⟨_, rfl, ?_⟩)
      · refine Sq.shift rfl g l.length rfl hml' (by omega) ?_
        repeat' (first|refine zS ?_|refine zR ?_|refine zE tab_ok rfl rfl ?_|refine zN ?_|(refine zG rfl rfl (fun _ => ?_) fun _ => ?_)<;>refine zE tab_ok rfl rfl ?_|(refine zC rfl (fun _ => ?_) fun _ => ?_)<;>try (rename_i h; cases h; done)|refine zB ?_|refine zK ?_|refine zZ ⟨_, rfl, ?_⟩)
        · rfl
        · exfalso
          rename_i h
          have h : (((g >>> l.length).toNat : Int) != 0) = false := h
          rw [(shr_zero g l.length).2 hb] at h; cases h
      · exfalso
        rename_i h h2
        have h : decide ((((l.map stpT).length : Nat) : Int) < 64) = false := h
        rw [hml] at h
        have h := of_decide_eq_false h
        omega
  have hF := hF1 (fun j hj => by
    cases h : g.getLsbD j
    · rfl
    · exact absurd ⟨j, hj, h⟩ hb)
  refine Sq.callv rfl (hF) ?_
  repeat' (first|refine zS ?_|refine zR ?_|refine zE tab_ok rfl rfl ?_|refine zN ?_|(refine zG rfl rfl (fun _ => ?_) fun _ => ?_)<;>refine zE tab_ok rfl rfl ?_|(refine zC rfl (fun _ => ?_) fun _ => ?_)<;>try (rename_i h; cases h; done)|refine zB ?_|refine zK ?_|refine zZ ⟨_, rfl, ?_⟩)
  rcases Classical.em (k < 0 ∨ (l.length : Int) ≤ k) with hk | hk
  · have hV := hV0 hk
    refine Sq.callv rfl (hV) ?_
    repeat' (first|refine zS ?_|refine zR ?_|refine zE tab_ok rfl rfl ?_|refine zN ?_|(refine zG rfl rfl (fun _ => ?_) fun _ => ?_)<;>refine zE tab_ok rfl rfl ?_|(refine zC rfl (fun _ => ?_) fun _ => ?_)<;>try (rename_i h; cases h; done)|refine zB ?_|refine zK ?_|refine zZ ⟨_, rfl, ?_⟩)
    · refine Sq.ccmp (b := false) rfl rfl ?_
      repeat' (first|refine zS ?_|refine zR ?_|refine zE tab_ok rfl rfl ?_|refine zN ?_|(refine zG rfl rfl (fun _ => ?_) fun _ => ?_)<;>refine zE tab_ok rfl rfl ?_|(refine zC rfl (fun _ => ?_) fun _ => ?_)<;>try (rename_i h; cases h; done)|refine zB ?_|refine zK ?_|refine zZ ⟨_, rfl, ?_⟩)
      · refine Sq.shift rfl g l.length rfl hml' (by omega) ?_
        repeat' (first|refine zS ?_|refine zR ?_|refine zE tab_ok rfl rfl ?_|refine zN ?_|(refine zG rfl rfl (fun _ => ?_) fun _ => ?_)<;>refine zE tab_ok rfl rfl ?_|(refine zC rfl (fun _ => ?_) fun _ => ?_)<;>try (rename_i h; cases h; done)|refine zB ?_|refine zK ?_|refine zZ ⟨_, rfl, ?_⟩)
        · exfalso
          rename_i h
          have h : (((g >>> l.length).toNat : Int) != 0) = true := h
          exact hb ((shr_zero g l.length).1 h)
        refine Sq.callv rfl (hRf) ?_
        repeat' (first|refine zS ?_|refine zR ?_|refine zE tab_ok rfl rfl ?_|refine zN ?_|(refine zG rfl rfl (fun _ => ?_) fun _ => ?_)<;>refine zE tab_ok rfl rfl ?_|(refine zC rfl (fun _ => ?_) fun _ => ?_)<;>try (rename_i h; cases h; done)|refine zB ?_|refine zK ?_|refine zZ ⟨_, rfl, ?_⟩)
        refine Tr.loopS (fun i : Nat => [(.s 18, .tr (.ls (L.map pcT))), (.s 19, int 0), (.s 24, .tr (.ls (L.map pT'))), (.s 137, .tr (.ls (L.map pT'))), (.s 138, int (L.map pT').length), (.s 139, int i)]) (fun i => L.length - i) (fun i => i ≤ L.length)
          0 (by omega) (Sub.app (l := [_, _, _, _, _, _]) (H := []) ⟨rfl, rfl, rfl, rfl, rfl, rfl, trivial⟩ (fun κ v h => nomatch h)) ?_
        rintro i hi
        repeat' (first|refine zS ?_|refine zR ?_|refine zE tab_ok rfl rfl ?_|refine zN ?_|(refine zG rfl rfl (fun _ => ?_) fun _ => ?_)<;>refine zE tab_ok rfl rfl ?_|(refine zC rfl (fun _ => ?_) fun _ => ?_)<;>try (rename_i h; cases h; done)|refine zB ?_|refine zK ?_|refine zZ ⟨_, rfl, ?_⟩)
        · rename_i h2
          have h2 : decide ((i : Int) < ((L.map pT').length : Int)) = true := h2
          have hlt : i < L.length := by simp only [List.length_map, decide_eq_true_eq] at h2; omega
          obtain ⟨p, hp⟩ : ∃ x, L[i]? = some x := ⟨_, List.getElem?_eq_getElem hlt⟩
          have hpe : (L.map pT')[((i : Nat) : Int).toNat]? = some (pT' p) := by simp [hp]
          obtain ⟨p1, p2⟩ := hrg p (List.mem_of_getElem? hp)
          have hP := Place_ok p.1 p.2
          have hPB : placeB p.1 p.2 = true := by unfold placeB; simp only [Bool.and_eq_true, decide_eq_true_eq]; omega
          rw [hPB] at hP
          refine zI (x := pT' p) tab_ok rfl (by omega) (hpe) rfl ?_
          repeat' (first|refine zS ?_|refine zR ?_|refine zE tab_ok rfl rfl ?_|refine zN ?_|(refine zG rfl rfl (fun _ => ?_) fun _ => ?_)<;>refine zE tab_ok rfl rfl ?_|(refine zC rfl (fun _ => ?_) fun _ => ?_)<;>try (rename_i h; cases h; done)|refine zB ?_|refine zK ?_|refine zZ ⟨_, rfl, ?_⟩)
          refine Sq.callv rfl (hP) ?_
          repeat' (first|refine zS ?_|refine zR ?_|refine zE tab_ok rfl rfl ?_|refine zN ?_|(refine zG rfl rfl (fun _ => ?_) fun _ => ?_)<;>refine zE tab_ok rfl rfl ?_|(refine zC rfl (fun _ => ?_) fun _ => ?_)<;>try (rename_i h; cases h; done)|refine zB ?_|refine zK ?_|refine zZ ⟨_, rfl, ?_⟩)
          exact ⟨i + 1, by omega, by omega, Sub.app (l := [_, _, _, _, _, _]) (H := []) ⟨rfl, rfl, rfl, rfl, rfl, congrArg some (wrapz (by omega) (by omega) (by omega)), trivial⟩ (fun κ v h => nomatch h)⟩
        · refine Tr.exit ?_
          repeat' (first|refine zS ?_|refine zR ?_|refine zE tab_ok rfl rfl ?_|refine zN ?_|(refine zG rfl rfl (fun _ => ?_) fun _ => ?_)<;>refine zE tab_ok rfl rfl ?_|(refine zC rfl (fun _ => ?_) fun _ => ?_)<;>try (rename_i h; cases h; done)|refine zB ?_|refine zK ?_|refine zZ ⟨_, rfl, ?_⟩)
          refine Sq.callv rfl (hNm) ?_
          repeat' (first|refine zS ?_|refine zR ?_|refine zE tab_ok rfl rfl ?_|refine zN ?_|(refine zG rfl rfl (fun _ => ?_) fun _ => ?_)<;>refine zE tab_ok rfl rfl ?_|(refine zC rfl (fun _ => ?_) fun _ => ?_)<;>try (rename_i h; cases h; done)|refine zB ?_|refine zK ?_|refine zZ ⟨_, rfl, ?_⟩)
          refine Sq.callv rfl (hSm) ?_
          repeat' (first|refine zS ?_|refine zR ?_|refine zE tab_ok rfl rfl ?_|refine zN ?_|(refine zG rfl rfl (fun _ => ?_) fun _ => ?_)<;>refine zE tab_ok rfl rfl ?_|(refine zC rfl (fun _ => ?_) fun _ => ?_)<;>try (rename_i h; cases h; done)|refine zB ?_|refine zK ?_|refine zZ ⟨_, rfl, ?_⟩)
          rfl
      · exfalso
        rename_i h h2
        have h : decide ((((l.map stpT).length : Nat) : Int) < 64) = false := h
        rw [hml] at h
        have h := of_decide_eq_false h
        omega

    · refine Sq.ccmp (b := false) rfl rfl ?_
      repeat' (first|refine zS ?_|refine zR ?_|refine zE tab_ok rfl rfl ?_|refine zN ?_|(refine zG rfl rfl (fun _ => ?_) fun _ => ?_)<;>refine zE tab_ok rfl rfl ?_|(refine zC rfl (fun _ => ?_) fun _ => ?_)<;>try (rename_i h; cases h; done)|refine zB ?_|refine zK ?_|refine zZ ⟨_, rfl, ?_⟩)
      · refine Sq.shift rfl g l.length rfl hml' (by omega) ?_
        repeat' (first|refine zS ?_|refine zR ?_|refine zE tab_ok rfl rfl ?_|refine zN ?_|(refine zG rfl rfl (fun _ => ?_) fun _ => ?_)<;>refine zE tab_ok rfl rfl ?_|(refine zC rfl (fun _ => ?_) fun _ => ?_)<;>try (rename_i h; cases h; done)|refine zB ?_|refine zK ?_|refine zZ ⟨_, rfl, ?_⟩)
        · exfalso
          rename_i h
          have h : (((g >>> l.length).toNat : Int) != 0) = true := h
          exact hb ((shr_zero g l.length).1 h)
        refine Sq.callv rfl (hRf) ?_
        repeat' (first|refine zS ?_|refine zR ?_|refine zE tab_ok rfl rfl ?_|refine zN ?_|(refine zG rfl rfl (fun _ => ?_) fun _ => ?_)<;>refine zE tab_ok rfl rfl ?_|(refine zC rfl (fun _ => ?_) fun _ => ?_)<;>try (rename_i h; cases h; done)|refine zB ?_|refine zK ?_|refine zZ ⟨_, rfl, ?_⟩)
        refine Tr.loopS (fun i : Nat => [(.s 18, .tr (.ls (L.map pcT))), (.s 19, int 0), (.s 24, .tr (.ls (L.map pT'))), (.s 137, .tr (.ls (L.map pT'))), (.s 138, int (L.map pT').length), (.s 139, int i)]) (fun i => L.length - i) (fun i => i ≤ L.length)
          0 (by omega) (Sub.app (l := [_, _, _, _, _, _]) (H := []) ⟨rfl, rfl, rfl, rfl, rfl, rfl, trivial⟩ (fun κ v h => nomatch h)) ?_
        rintro i hi
        repeat' (first|refine zS ?_|refine zR ?_|refine zE tab_ok rfl rfl ?_|refine zN ?_|(refine zG rfl rfl (fun _ => ?_) fun _ => ?_)<;>refine zE tab_ok rfl rfl ?_|(refine zC rfl (fun _ => ?_) fun _ => ?_)<;>try (rename_i h; cases h; done)|refine zB ?_|refine zK ?_|refine zZ ⟨_, rfl, ?_⟩)
        · rename_i h2
          have h2 : decide ((i : Int) < ((L.map pT').length : Int)) = true := h2
          have hlt : i < L.length := by simp only [List.length_map, decide_eq_true_eq] at h2; omega
          obtain ⟨p, hp⟩ : ∃ x, L[i]? = some x := ⟨_, List.getElem?_eq_getElem hlt⟩
          have hpe : (L.map pT')[((i : Nat) : Int).toNat]? = some (pT' p) := by simp [hp]
          obtain ⟨p1, p2⟩ := hrg p (List.mem_of_getElem? hp)
          have hP := Place_ok p.1 p.2
          have hPB : placeB p.1 p.2 = true := by unfold placeB; simp only [Bool.and_eq_true, decide_eq_true_eq]; omega
          rw [hPB] at hP
          refine zI (x := pT' p) tab_ok rfl (by omega) (hpe) rfl ?_
          repeat' (first|refine zS ?_|refine zR ?_|refine zE tab_ok rfl rfl ?_|refine zN ?_|(refine zG rfl rfl (fun _ => ?_) fun _ => ?_)<;>refine zE tab_ok rfl rfl ?_|(refine zC rfl (fun _ => ?_) fun _ => ?_)<;>try (rename_i h; cases h; done)|refine zB ?_|refine zK ?_|refine zZ ⟨_, rfl, ?_⟩)
          refine Sq.callv rfl (hP) ?_
          repeat' (first|refine zS ?_|refine zR ?_|refine zE tab_ok rfl rfl ?_|refine zN ?_|(refine zG rfl rfl (fun _ => ?_) fun _ => ?_)<;>refine zE tab_ok rfl rfl ?_|(refine zC rfl (fun _ => ?_) fun _ => ?_)<;>try (rename_i h; cases h; done)|refine zB ?_|refine zK ?_|refine zZ ⟨_, rfl, ?_⟩)
          exact ⟨i + 1, by omega, by omega, Sub.app (l := [_, _, _, _, _, _]) (H := []) ⟨rfl, rfl, rfl, rfl, rfl, congrArg some (wrapz (by omega) (by omega) (by omega)), trivial⟩ (fun κ v h => nomatch h)⟩
        · refine Tr.exit ?_
          repeat' (first|refine zS ?_|refine zR ?_|refine zE tab_ok rfl rfl ?_|refine zN ?_|(refine zG rfl rfl (fun _ => ?_) fun _ => ?_)<;>refine zE tab_ok rfl rfl ?_|(refine zC rfl (fun _ => ?_) fun _ => ?_)<;>try (rename_i h; cases h; done)|refine zB ?_|refine zK ?_|refine zZ ⟨_, rfl, ?_⟩)
          refine Sq.callv rfl (hNm) ?_
          repeat' (first|refine zS ?_|refine zR ?_|refine zE tab_ok rfl rfl ?_|refine zN ?_|(refine zG rfl rfl (fun _ => ?_) fun _ => ?_)<;>refine zE tab_ok rfl rfl ?_|(refine zC rfl (fun _ => ?_) fun _ => ?_)<;>try (rename_i h; cases h; done)|refine zB ?_|refine zK ?_|refine zZ ⟨_, rfl, ?_⟩)
          refine Sq.callv rfl (hSm) ?_
          repeat' (first|refine zS ?_|refine zR ?_|refine zE tab_ok rfl rfl ?_|refine zN ?_|(refine zG rfl rfl (fun _ => ?_) fun _ => ?_)<;>refine zE tab_ok rfl rfl ?_|(refine zC rfl (fun _ => ?_) fun _ => ?_)<;>try (rename_i h; cases h; done)|refine zB ?_|refine zK ?_|refine zZ ⟨_, rfl, ?_⟩)
          rfl
      · exfalso
        rename_i h h2
        have h : decide ((((l.map stpT).length : Nat) : Int) < 64) = false := h
        rw [hml] at h
        have h := of_decide_eq_false h
        omega

    · exfalso
      rename_i a1 a2
      have a1 : decide (k < 0) = false := a1
      have a2 : decide (k ≥ (((l.map stpT).length : Nat) : Int)) = false := a2
      rw [hml] at a2
      have a1 := of_decide_eq_false a1
      have a2 := of_decide_eq_false a2
      omega
  obtain ⟨n, rfl⟩ : ∃ n : Nat, k = n := ⟨k.toNat, by omega⟩
  obtain ⟨a, ha⟩ : ∃ a, l[n]? = some a := ⟨_, List.getElem?_eq_getElem (by omega)⟩
  have hae : (l.map stpT)[((n : Nat) : Int).toNat]? = some (stpT a) := by simp [ha]
  obtain ⟨v, w, hv, hw, ev, ew, b1, b2⟩ := hbd n a ha
  have hV := hV1 n a ha v w hv hw b1 b2
  have hve : (f.map intT)[((a.s : Nat) : Int).toNat]? = some (intT v) := by simp [hv]
  have hwe : (t.map intT)[((a.s : Nat) : Int).toNat]? = some (intT w) := by simp [hw]
  have kill : ∀ {b2 : Bool}, decide ((n : Int) ≥ (((l.map stpT).length : Nat) : Int)) = b2 → b2 = false := by
    intro b2 h2
    rw [hml] at h2
    subst h2
    exact decide_eq_false (by omega)
  by_cases hk2 : a.k = 2
  · have hvec : vecT f t a = .sc (.complex .f64 (floatOfInt .f64 (w - v)) (floatOfInt .f64 0)) := by unfold vecT; rw [if_pos hk2, ev, ew]
    have hN : Fn Tryz.prog Gw _ _ [] (· = .tr (.sc (.complex .f64 (floatOfInt .f64 (w - v)) (floatOfInt .f64 0)))) := Number_ok' (w - v) 0
    rw [hvec] at hV
    have hcc := ccmp_eq (eq_small (v := w - v) (by omega) (by omega)) (eq_small (v := 0) (by omega) (by omega))
    clear hvec
    generalize floatOfInt .f64 (w - v) = F1 at *
    generalize floatOfInt .f64 0 = F0 at *
    refine Sq.callv rfl (hV) ?_
    repeat' (first|refine zS ?_|refine zR ?_|refine zE tab_ok rfl rfl ?_|refine zN ?_|(refine zG rfl rfl (fun _ => ?_) fun _ => ?_)<;>refine zE tab_ok rfl rfl ?_|(refine zC rfl (fun _ => ?_) fun _ => ?_)<;>try (rename_i h; cases h; done)|refine zB ?_|refine zK ?_|refine zZ ⟨_, rfl, ?_⟩)
    · exfalso; rename_i h h2; have := kill h; cases this
    refine zI (x := stpT a) tab_ok rfl (by omega) (hae) rfl ?_
    repeat' (first|refine zS ?_|refine zR ?_|refine zE tab_ok rfl rfl ?_|refine zN ?_|(refine zG rfl rfl (fun _ => ?_) fun _ => ?_)<;>refine zE tab_ok rfl rfl ?_|(refine zC rfl (fun _ => ?_) fun _ => ?_)<;>try (rename_i h; cases h; done)|refine zB ?_|refine zK ?_|refine zZ ⟨_, rfl, ?_⟩)
    · refine Tr.drawn ( zD tab_ok rfl rfl <| zD tab_ok rfl rfl <| zD tab_ok rfl rfl <| zO rfl (fun q K hK => zI (x := intT w) tab_ok rfl (by omega) (hwe) rfl (zN hK)) <| zD tab_ok rfl rfl <| zD tab_ok rfl rfl <| zD tab_ok rfl rfl <| zD tab_ok rfl rfl <| zO rfl (fun q K hK => zI (x := intT v) tab_ok rfl (by omega) (hve) rfl (zN hK)) <| zD tab_ok rfl rfl <| DSq.evr tab_ok rfl (congrArg int (Go.IntWalk.i64_in (w - v) ⟨by omega, by omega⟩)) <| zD tab_ok rfl rfl <| zD tab_ok rfl rfl <| DSq.nil _) mix_ok rfl ?_
      repeat' (first|refine zS ?_|refine zR ?_|refine zE tab_ok rfl rfl ?_|refine zN ?_|(refine zG rfl rfl (fun _ => ?_) fun _ => ?_)<;>refine zE tab_ok rfl rfl ?_|(refine zC rfl (fun _ => ?_) fun _ => ?_)<;>try (rename_i h; cases h; done)|refine zB ?_|refine zK ?_|refine zZ ⟨_, rfl, ?_⟩)
      refine Sq.callv rfl (hN) ?_
      refine Sq.ccmp (b := false) rfl hcc ?_
      repeat' (first|refine zS ?_|refine zR ?_|refine zE tab_ok rfl rfl ?_|refine zN ?_|(refine zG rfl rfl (fun _ => ?_) fun _ => ?_)<;>refine zE tab_ok rfl rfl ?_|(refine zC rfl (fun _ => ?_) fun _ => ?_)<;>try (rename_i h; cases h; done)|refine zB ?_|refine zK ?_|refine zZ ⟨_, rfl, ?_⟩)
      · refine Sq.shift rfl g l.length rfl hml' (by omega) ?_
        repeat' (first|refine zS ?_|refine zR ?_|refine zE tab_ok rfl rfl ?_|refine zN ?_|(refine zG rfl rfl (fun _ => ?_) fun _ => ?_)<;>refine zE tab_ok rfl rfl ?_|(refine zC rfl (fun _ => ?_) fun _ => ?_)<;>try (rename_i h; cases h; done)|refine zB ?_|refine zK ?_|refine zZ ⟨_, rfl, ?_⟩)
        · exfalso
          rename_i h
          have h : (((g >>> l.length).toNat : Int) != 0) = true := h
          exact hb ((shr_zero g l.length).1 h)
        refine Sq.callv rfl (hRf) ?_
        repeat' (first|refine zS ?_|refine zR ?_|refine zE tab_ok rfl rfl ?_|refine zN ?_|(refine zG rfl rfl (fun _ => ?_) fun _ => ?_)<;>refine zE tab_ok rfl rfl ?_|(refine zC rfl (fun _ => ?_) fun _ => ?_)<;>try (rename_i h; cases h; done)|refine zB ?_|refine zK ?_|refine zZ ⟨_, rfl, ?_⟩)
        refine Tr.loopS (fun i : Nat => [(.s 18, .tr (.ls (L.map pcT))), (.s 19, int 0), (.s 24, .tr (.ls (L.map pT'))), (.s 137, .tr (.ls (L.map pT'))), (.s 138, int (L.map pT').length), (.s 139, int i)]) (fun i => L.length - i) (fun i => i ≤ L.length)
          0 (by omega) (Sub.app (l := [_, _, _, _, _, _]) (H := []) ⟨rfl, rfl, rfl, rfl, rfl, rfl, trivial⟩ (fun κ v h => nomatch h)) ?_
        rintro i hi
        repeat' (first|refine zS ?_|refine zR ?_|refine zE tab_ok rfl rfl ?_|refine zN ?_|(refine zG rfl rfl (fun _ => ?_) fun _ => ?_)<;>refine zE tab_ok rfl rfl ?_|(refine zC rfl (fun _ => ?_) fun _ => ?_)<;>try (rename_i h; cases h; done)|refine zB ?_|refine zK ?_|refine zZ ⟨_, rfl, ?_⟩)
        · rename_i h2
          have h2 : decide ((i : Int) < ((L.map pT').length : Int)) = true := h2
          have hlt : i < L.length := by simp only [List.length_map, decide_eq_true_eq] at h2; omega
          obtain ⟨p, hp⟩ : ∃ x, L[i]? = some x := ⟨_, List.getElem?_eq_getElem hlt⟩
          have hpe : (L.map pT')[((i : Nat) : Int).toNat]? = some (pT' p) := by simp [hp]
          obtain ⟨p1, p2⟩ := hrg p (List.mem_of_getElem? hp)
          have hP := Place_ok p.1 p.2
          have hPB : placeB p.1 p.2 = true := by unfold placeB; simp only [Bool.and_eq_true, decide_eq_true_eq]; omega
          rw [hPB] at hP
          refine zI (x := pT' p) tab_ok rfl (by omega) (hpe) rfl ?_
          repeat' (first|refine zS ?_|refine zR ?_|refine zE tab_ok rfl rfl ?_|refine zN ?_|(refine zG rfl rfl (fun _ => ?_) fun _ => ?_)<;>refine zE tab_ok rfl rfl ?_|(refine zC rfl (fun _ => ?_) fun _ => ?_)<;>try (rename_i h; cases h; done)|refine zB ?_|refine zK ?_|refine zZ ⟨_, rfl, ?_⟩)
          refine Sq.callv rfl (hP) ?_
          repeat' (first|refine zS ?_|refine zR ?_|refine zE tab_ok rfl rfl ?_|refine zN ?_|(refine zG rfl rfl (fun _ => ?_) fun _ => ?_)<;>refine zE tab_ok rfl rfl ?_|(refine zC rfl (fun _ => ?_) fun _ => ?_)<;>try (rename_i h; cases h; done)|refine zB ?_|refine zK ?_|refine zZ ⟨_, rfl, ?_⟩)
          exact ⟨i + 1, by omega, by omega, Sub.app (l := [_, _, _, _, _, _]) (H := []) ⟨rfl, rfl, rfl, rfl, rfl, congrArg some (wrapz (by omega) (by omega) (by omega)), trivial⟩ (fun κ v h => nomatch h)⟩
        · refine Tr.exit ?_
          repeat' (first|refine zS ?_|refine zR ?_|refine zE tab_ok rfl rfl ?_|refine zN ?_|(refine zG rfl rfl (fun _ => ?_) fun _ => ?_)<;>refine zE tab_ok rfl rfl ?_|(refine zC rfl (fun _ => ?_) fun _ => ?_)<;>try (rename_i h; cases h; done)|refine zB ?_|refine zK ?_|refine zZ ⟨_, rfl, ?_⟩)
          refine Sq.callv rfl (hNm) ?_
          repeat' (first|refine zS ?_|refine zR ?_|refine zE tab_ok rfl rfl ?_|refine zN ?_|(refine zG rfl rfl (fun _ => ?_) fun _ => ?_)<;>refine zE tab_ok rfl rfl ?_|(refine zC rfl (fun _ => ?_) fun _ => ?_)<;>try (rename_i h; cases h; done)|refine zB ?_|refine zK ?_|refine zZ ⟨_, rfl, ?_⟩)
          refine Sq.callv rfl (hSm) ?_
          repeat' (first|refine zS ?_|refine zR ?_|refine zE tab_ok rfl rfl ?_|refine zN ?_|(refine zG rfl rfl (fun _ => ?_) fun _ => ?_)<;>refine zE tab_ok rfl rfl ?_|(refine zC rfl (fun _ => ?_) fun _ => ?_)<;>try (rename_i h; cases h; done)|refine zB ?_|refine zK ?_|refine zZ ⟨_, rfl, ?_⟩)
          rfl
      · exfalso
        rename_i h h2
        have h : decide ((((l.map stpT).length : Nat) : Int) < 64) = false := h
        rw [hml] at h
        have h := of_decide_eq_false h
        omega

    · exfalso
      rename_i h
      have h : (((a.k : Nat) : Int) == 2) = false := h
      simp at h; omega
  have hvec : vecT f t a = .sc (.complex .f64 (floatOfInt .f64 0) (floatOfInt .f64 1)) := by unfold vecT; rw [if_neg hk2]
  have hN : Fn Tryz.prog Gw _ _ [] (· = .tr (.sc (.complex .f64 (floatOfInt .f64 0) (floatOfInt .f64 1)))) := Number_ok' 0 1
  rw [hvec] at hV
  have hcc := ccmp_eq (eq_small (v := 0) (by omega) (by omega)) (eq_small (v := 1) (by omega) (by omega))
  clear hvec
  generalize floatOfInt .f64 0 = F0 at *
  generalize floatOfInt .f64 1 = F1 at *
  refine Sq.callv rfl (hV) ?_
  repeat' (first|refine zS ?_|refine zR ?_|refine zE tab_ok rfl rfl ?_|refine zN ?_|(refine zG rfl rfl (fun _ => ?_) fun _ => ?_)<;>refine zE tab_ok rfl rfl ?_|(refine zC rfl (fun _ => ?_) fun _ => ?_)<;>try (rename_i h; cases h; done)|refine zB ?_|refine zK ?_|refine zZ ⟨_, rfl, ?_⟩)
  · exfalso; rename_i h h2; have := kill h; cases this
  refine zI (x := stpT a) tab_ok rfl (by omega) (hae) rfl ?_
  repeat' (first|refine zS ?_|refine zR ?_|refine zE tab_ok rfl rfl ?_|refine zN ?_|(refine zG rfl rfl (fun _ => ?_) fun _ => ?_)<;>refine zE tab_ok rfl rfl ?_|(refine zC rfl (fun _ => ?_) fun _ => ?_)<;>try (rename_i h; cases h; done)|refine zB ?_|refine zK ?_|refine zZ ⟨_, rfl, ?_⟩)
  · exfalso
    rename_i h
    have h : (((a.k : Nat) : Int) == 2) = true := h
    simp at h; omega
  · refine Sq.callv rfl (hN) ?_
    refine Sq.ccmp (b := false) rfl hcc ?_
    repeat' (first|refine zS ?_|refine zR ?_|refine zE tab_ok rfl rfl ?_|refine zN ?_|(refine zG rfl rfl (fun _ => ?_) fun _ => ?_)<;>refine zE tab_ok rfl rfl ?_|(refine zC rfl (fun _ => ?_) fun _ => ?_)<;>try (rename_i h; cases h; done)|refine zB ?_|refine zK ?_|refine zZ ⟨_, rfl, ?_⟩)
    · refine Sq.shift rfl g l.length rfl hml' (by omega) ?_
      repeat' (first|refine zS ?_|refine zR ?_|refine zE tab_ok rfl rfl ?_|refine zN ?_|(refine zG rfl rfl (fun _ => ?_) fun _ => ?_)<;>refine zE tab_ok rfl rfl ?_|(refine zC rfl (fun _ => ?_) fun _ => ?_)<;>try (rename_i h; cases h; done)|refine zB ?_|refine zK ?_|refine zZ ⟨_, rfl, ?_⟩)
      · exfalso
        rename_i h
        have h : (((g >>> l.length).toNat : Int) != 0) = true := h
        exact hb ((shr_zero g l.length).1 h)
      refine Sq.callv rfl (hRf) ?_
      repeat' (first|refine zS ?_|refine zR ?_|refine zE tab_ok rfl rfl ?_|refine zN ?_|(refine zG rfl rfl (fun _ => ?_) fun _ => ?_)<;>refine zE tab_ok rfl rfl ?_|(refine zC rfl (fun _ => ?_) fun _ => ?_)<;>try (rename_i h; cases h; done)|refine zB ?_|refine zK ?_|refine zZ ⟨_, rfl, ?_⟩)
      refine Tr.loopS (fun i : Nat => [(.s 18, .tr (.ls (L.map pcT))), (.s 19, int 0), (.s 24, .tr (.ls (L.map pT'))), (.s 137, .tr (.ls (L.map pT'))), (.s 138, int (L.map pT').length), (.s 139, int i)]) (fun i => L.length - i) (fun i => i ≤ L.length)
        0 (by omega) (Sub.app (l := [_, _, _, _, _, _]) (H := []) ⟨rfl, rfl, rfl, rfl, rfl, rfl, trivial⟩ (fun κ v h => nomatch h)) ?_
      rintro i hi
      repeat' (first|refine zS ?_|refine zR ?_|refine zE tab_ok rfl rfl ?_|refine zN ?_|(refine zG rfl rfl (fun _ => ?_) fun _ => ?_)<;>refine zE tab_ok rfl rfl ?_|(refine zC rfl (fun _ => ?_) fun _ => ?_)<;>try (rename_i h; cases h; done)|refine zB ?_|refine zK ?_|refine zZ ⟨_, rfl, ?_⟩)
      · rename_i h2
        have h2 : decide ((i : Int) < ((L.map pT').length : Int)) = true := h2
        have hlt : i < L.length := by simp only [List.length_map, decide_eq_true_eq] at h2; omega
        obtain ⟨p, hp⟩ : ∃ x, L[i]? = some x := ⟨_, List.getElem?_eq_getElem hlt⟩
        have hpe : (L.map pT')[((i : Nat) : Int).toNat]? = some (pT' p) := by simp [hp]
        obtain ⟨p1, p2⟩ := hrg p (List.mem_of_getElem? hp)
        have hP := Place_ok p.1 p.2
        have hPB : placeB p.1 p.2 = true := by unfold placeB; simp only [Bool.and_eq_true, decide_eq_true_eq]; omega
        rw [hPB] at hP
        refine zI (x := pT' p) tab_ok rfl (by omega) (hpe) rfl ?_
        repeat' (first|refine zS ?_|refine zR ?_|refine zE tab_ok rfl rfl ?_|refine zN ?_|(refine zG rfl rfl (fun _ => ?_) fun _ => ?_)<;>refine zE tab_ok rfl rfl ?_|(refine zC rfl (fun _ => ?_) fun _ => ?_)<;>try (rename_i h; cases h; done)|refine zB ?_|refine zK ?_|refine zZ ⟨_, rfl, ?_⟩)
        refine Sq.callv rfl (hP) ?_
        repeat' (first|refine zS ?_|refine zR ?_|refine zE tab_ok rfl rfl ?_|refine zN ?_|(refine zG rfl rfl (fun _ => ?_) fun _ => ?_)<;>refine zE tab_ok rfl rfl ?_|(refine zC rfl (fun _ => ?_) fun _ => ?_)<;>try (rename_i h; cases h; done)|refine zB ?_|refine zK ?_|refine zZ ⟨_, rfl, ?_⟩)
        exact ⟨i + 1, by omega, by omega, Sub.app (l := [_, _, _, _, _, _]) (H := []) ⟨rfl, rfl, rfl, rfl, rfl, congrArg some (wrapz (by omega) (by omega) (by omega)), trivial⟩ (fun κ v h => nomatch h)⟩
      · refine Tr.exit ?_
        repeat' (first|refine zS ?_|refine zR ?_|refine zE tab_ok rfl rfl ?_|refine zN ?_|(refine zG rfl rfl (fun _ => ?_) fun _ => ?_)<;>refine zE tab_ok rfl rfl ?_|(refine zC rfl (fun _ => ?_) fun _ => ?_)<;>try (rename_i h; cases h; done)|refine zB ?_|refine zK ?_|refine zZ ⟨_, rfl, ?_⟩)
        refine Sq.callv rfl (hNm) ?_
        repeat' (first|refine zS ?_|refine zR ?_|refine zE tab_ok rfl rfl ?_|refine zN ?_|(refine zG rfl rfl (fun _ => ?_) fun _ => ?_)<;>refine zE tab_ok rfl rfl ?_|(refine zC rfl (fun _ => ?_) fun _ => ?_)<;>try (rename_i h; cases h; done)|refine zB ?_|refine zK ?_|refine zZ ⟨_, rfl, ?_⟩)
        refine Sq.callv rfl (hSm) ?_
        repeat' (first|refine zS ?_|refine zR ?_|refine zE tab_ok rfl rfl ?_|refine zN ?_|(refine zG rfl rfl (fun _ => ?_) fun _ => ?_)<;>refine zE tab_ok rfl rfl ?_|(refine zC rfl (fun _ => ?_) fun _ => ?_)<;>try (rename_i h; cases h; done)|refine zB ?_|refine zK ?_|refine zZ ⟨_, rfl, ?_⟩)
        rfl
    · exfalso
      rename_i h h2
      have h : decide ((((l.map stpT).length : Nat) : Int) < 64) = false := h
      rw [hml] at h
      have h := of_decide_eq_false h
      omega
end Go.Lg.Tryz

set_option linter.unusedSimpArgs false
set_option linter.unusedVariables false
namespace Go.Lg.Tryz
open Go Go.Proofs Go.Proofs.YtikjlooifdgbaaaGreatDoor Go.ChangeShapes Go.WideShapes Go.ChangeAt Go.RowKit Go.Joins Go.Lg.Sem
def theLaid : List (String × DataW Unit) := Rows.planMakesRow.laid
theorem own : ownKnob Tryz.prog.godebug = none := by kernel_rfl
theorem laidOut : laidOutB Tryz.prog = true := by kernel_rfl
def firstCells : Array Value := match Go.Pinned.utf8First with
  | .agg l => (l.map fun | .lit (.int k n) => Value.int k n | _ => undef).toArray
  | _ => #[]
noncomputable def laidWorld (os : Os) : World :=
  let w0 := World.doorLaid Tryz.prog 72 os
  { w0 with heap := w0.heap.modify 2 fun
      | .cells _ t frozen => .cells firstCells t frozen
      | o => o }
set_option maxRecDepth 100000 in
theorem laidWorld_met (os : Os) (args : Array Value) : laidMetH Tryz.prog theLaid ((laidWorld os).forCall (fun _ _ => 0) ⟨#[], args, []⟩).memory :=
  laidMetH_of_parts3 (fuel := 8) (laidMet_of_run' 8 (by kernel_rfl) (by kernel_rfl)) (by kernel_rfl) (by kernel_rfl)
set_option maxRecDepth 100000 in
theorem laidWorld_shaped (os : Os) (args : Array Value) : ((laidWorld os).forCall (fun _ _ => 0) ⟨#[], args, []⟩).Shaped Tryz.prog :=
  World.shaped_of_RefB (by kernel_rfl) (by kernel_rfl)
theorem gw_of {W : World} (hs : W.ShapedOpen Tryz.prog) (h : laidMetH Tryz.prog theLaid W) : Gw W := by
  rw [MakeChecks.laidMetH_plain _ _ _ (by kernel_rfl)] at h
  have h2 : laidMet Tryz.prog (("internal/strconv.uint64pow10", Lib.tabData .u64 Lib.pow10Tab) :: theLaid.drop 3) W := h.tail.tail
  have ht := Lib.tabIs_of_head tab_at (t := 278) (e := 48) (n := 20) (by kernel_rfl) Tryz.underlying278 Tryz.underlying48 (by kernel_rfl) (by kernel_rfl) h2
  obtain ⟨m, hm⟩ := cell_of_shapedOpen_int (g := 4) (zero := #[.int .i64 0]) (t := 3) hs (of_decide_eq_true (by kernel_rfl)) (by kernel_rfl) rfl (by kernel_rfl) (by kernel_rfl) Tryz.underlying3
  have hbig : 8 ≤ W.heap.size := by
    have := ht
    unfold Lib.TabIs World.var? at this
    rw [tab_at, Option.bind_some] at this
    cases hb : W.heap[7]? with
    | none => rw [hb] at this; cases this
    | some o => have := (Array.getElem?_eq_some_iff.1 hb).1; omega
  have h3 : laidMet Tryz.prog (("math/bits.deBruijn64tab", Lib.tabData .u8 (Lib.deBruijn64tab.map Int.ofNat)) :: theLaid.drop 2) W := h.tail
  have hd := Lib.tabIs_of_head (g := 0) (t := 186) (e := 5) (n := 64) (by kernel_rfl) (by kernel_rfl) Tryz.underlying186 Tryz.underlying5 (by kernel_rfl) (by kernel_rfl) h3
  exact ⟨⟨m, hm⟩, ht, hbig, fun j hj => by
    have h4 := hd.cell (g := 0) (by kernel_rfl) j (by rw [List.length_map]; exact hj)
    rw [h4]
    congr 2
    simp only [List.getD_eq_getElem?_getD, List.getElem?_map, List.getElem?_eq_getElem hj, Option.map_some, Option.getD_some]; rfl⟩
theorem returns_both {H : Type} {enc : TypeId × Value → H} {a : Assume} {C : Checked} {os : Os} {f : FuncId} {fn : Func} {s : ChangeSpec} {conds : List PathCond} {apart fresh handsOn again : Bool} {X : World → Array Value → Prop}
    (hX : ∀ (w w' : World) (args : Array Value), w.heap = w'.heap → X w args → X w' args)
    (own : ownKnob C.prog.godebug = none) (started : os.Started) (noInit : C.prog.inits.idxOf? f = none) (hfn : C.prog.funcs[f]? = some fn)
    (witness : ∃ (w : World) (tape : Tape) (i : Input), w.os = os ∧ (w.forCall tape i).Shaped C.prog ∧ i.vars = [] ∧ Input.okWide C.prog (w.forCall tape i) .any w.heap.size f i ∧
      ((s.pre enc C.prog fn conds apart (w.forCall tape i).memory i.args ∧ X (w.forCall tape i).memory i.args) ∧ sizedMet enc C.prog fn (OpenSpec.ofChange s) apart (w.forCall tape i).memory i.args) ∧ a.holds C.prog (lone (Frame.enter C.prog f i.args .normal) [] (w.forCall tape i)))
    (contract : ∀ (W : World) (base : Nat) (args : Array Value) (ds gs : List (DataW H)) (before : List MemPlace),
      (∀ (j : Nat) t v, fn.params[j]? = some t → args[j]? = some v → Value.okWide C.prog W .any base t v) →
      DataW.Whole enc C.prog fn.params.toList s.vars apart W args.toList ds gs before →
      (DataW.weightsEach C.prog (fn.params.toList ++ s.plain.varTypes C.prog) (ds ++ gs)).all (· ≤ reachBytes) = true → X W args → W.ShapedOpen C.prog →
      Calls C.prog f args W fun e W' => ∃ v, e = .returned v ∧ s.post enc C.prog fn apart fresh handsOn again W args v W') :
    ReturnsInHanded a C os f .any (fun w args => (s.pre enc C.prog fn conds apart w args ∧ X w args) ∧ sizedMet enc C.prog fn (OpenSpec.ofChange s) apart w args) (s.post enc C.prog fn apart fresh handsOn again) := by
  refine returnsInHanded_of_calls own started noInit witness ?_
  intro w tape i _ hsh _ hok hpre hholds
  obtain ⟨_, _, _, fn', hfn', _, _, _, _, hval⟩ := hok
  obtain rfl := Option.some.inj (hfn'.symm.trans hfn)
  obtain ⟨⟨⟨ds, gs, before, hw, hc⟩, hx⟩, hz⟩ := hpre
  have hw' := DataW.Whole.of_heap (w' := w.forCall tape i) (by rfl) hw
  refine (contract (w.forCall tape i) w.heap.size i.args ds gs before hval hw' (hz.weights hw) (hX _ _ _ (by rfl) hx) hsh).mono fun e W' ⟨v, he, hp⟩ => ?_
  subst he
  exact ChangeSpec.post_blind hp
section
variable {H : Type} {enc : TypeId × Value → H} {W : World}
theorem stays {t : TypeId} (hr : (Tryz.prog).readableRec t = true) (hrow : t < (Tryz.prog).types.size) {W' : World} {v : Value} {d : DataW H} {p : List MemPlace} (h : DataW.Trod enc Tryz.prog W 0 (fun _ => true) true t v d p) (hb : Below W.heap.size W W') (hlt : ∀ x ∈ p, x.block < W.heap.size) :
    DataW.Trod enc Tryz.prog W' 0 (fun b => decide (b < W.heap.size)) true t v d p := hb.trod laidOut hr hrow h hlt
theorem opens_ver : Opens enc Tryz.prog W 58 (fun v : Ver => [.sc (.int .i64 v.a), .sc (.int .i64 v.b), .sc (.int .i64 v.c), .sc (.string v.p)]) :=
  (opens_struct Tryz.underlying58 (by kernel_rfl) (OpensF.cons rfl (k := 1) (by kernel_rfl) (opens_int Tryz.underlying3) (OpensF.cons rfl (k := 1) (by kernel_rfl) (opens_int Tryz.underlying3) (OpensF.cons rfl (k := 1) (by kernel_rfl) (opens_int Tryz.underlying3)
    (OpensF.cons rfl (k := 1) (by kernel_rfl) (opens_string Tryz.underlying9) OpensF.nil))))).map (fun p : Int × Int × Int × ByteArray × Unit => ⟨p.1, p.2.1, p.2.2.1, p.2.2.2.1⟩) (fun p => rfl)
theorem opens_comp : Opens enc Tryz.prog W 99 (fun c : Cmp => [.sc (.int .i64 c.op), .sc (.int .i64 c.v.a), .sc (.int .i64 c.v.b), .sc (.int .i64 c.v.c), .sc (.string c.v.p)]) :=
  (opens_struct Tryz.underlying99 (by kernel_rfl) (OpensF.cons rfl (k := 1) (by kernel_rfl) (opens_int Tryz.underlying3) (OpensF.cons rfl (k := 4) (by kernel_rfl) opens_ver OpensF.nil))).map (fun p : Int × Ver × Unit => ⟨p.1, p.2.1⟩) (fun p => rfl)
noncomputable instance : Inhabited Cmp := ⟨Cmp.zero⟩
theorem opens_comps : Opens enc Tryz.prog W 100 (fun l : List Cmp => [cmpsT l]) :=
  opens_slice Cmp.t (fun c => rfl) Tryz.underlying100 (fun c => by rw [show (Tryz.prog).cellsOf 99 = 5 by kernel_rfl]; rfl) (by rw [show (Tryz.prog).cellsOf 99 = 5 by kernel_rfl]; omega) opens_comp
theorem opens_rng : Opens enc Tryz.prog W 103 (fun r : Rng => [.ls (r.map cmpsT)]) :=
  (opens_struct Tryz.underlying103 (by kernel_rfl) (OpensF.cons rfl (k := 1) (by kernel_rfl) (opens_slice cmpsT (fun l => rfl) Tryz.underlying101 (fun c => by rw [show (Tryz.prog).cellsOf 100 = 1 by kernel_rfl]; rfl) (by rw [show (Tryz.prog).cellsOf 100 = 1 by kernel_rfl]; omega) opens_comps) OpensF.nil)).map
    (fun p : Rng × Unit => p.1) (fun p => rfl)
end
end Go.Lg.Tryz

set_option linter.unusedSimpArgs false
set_option linter.unusedVariables false
namespace Go.Lg.Tryz
open Go Go.Proofs Go.Proofs.YtikjlooifdgbaaaGreatDoor Go.ChangeShapes Go.WideShapes Go.ChangeAt Go.RowKit Go.Joins Go.Lg.Sem
section
variable {H : Type} {enc : TypeId × Value → H} {W : World}
noncomputable instance : Inhabited Nd := ⟨⟨0, []⟩⟩
noncomputable instance : Inhabited Rls := ⟨⟨Cmp.zero.v, 0, []⟩⟩
noncomputable instance : Inhabited Svc := ⟨⟨ByteArray.empty, []⟩⟩
theorem opens_nd : Opens enc Tryz.prog W 105 (fun n : Nd => [.sc (.int .i64 n.s), .ls (n.r.map cmpsT)]) :=
  (opens_struct Tryz.underlying105 (by kernel_rfl) (OpensF.cons rfl (k := 1) (by kernel_rfl) (opens_int Tryz.underlying3) (OpensF.cons rfl (k := 1) (by kernel_rfl) opens_rng OpensF.nil))).map (fun p : Int × Rng × Unit => ⟨p.1, p.2.1⟩) (fun p => rfl)
theorem opens_nds : Opens enc Tryz.prog W 59 (fun l : List Nd => [.ls (l.map ndT)]) :=
  opens_slice ndT (fun c => rfl) Tryz.underlying59 (fun c => by rw [show (Tryz.prog).cellsOf 105 = 2 by kernel_rfl]; rfl) (by rw [show (Tryz.prog).cellsOf 105 = 2 by kernel_rfl]; omega) opens_nd
theorem opens_rls : Opens enc Tryz.prog W 61 (fun r : Rls => [.sc (.int .i64 r.v.a), .sc (.int .i64 r.v.b), .sc (.int .i64 r.v.c), .sc (.string r.v.p), .sc (.int .i64 r.level), .ls (r.needs.map ndT)]) :=
  (opens_struct Tryz.underlying61 (by kernel_rfl) (OpensF.cons rfl (k := 4) (by kernel_rfl) opens_ver (OpensF.cons rfl (k := 1) (by kernel_rfl) (opens_int Tryz.underlying3) (OpensF.cons rfl (k := 1) (by kernel_rfl) opens_nds OpensF.nil)))).map (fun p : Ver × Int × List Nd × Unit => ⟨p.1, p.2.1, p.2.2.1⟩) (fun p => rfl)
theorem opens_rlss : Opens enc Tryz.prog W 62 (fun l : List Rls => [.ls (l.map rlsT)]) :=
  opens_slice rlsT (fun c => rfl) Tryz.underlying62 (fun c => by rw [show (Tryz.prog).cellsOf 61 = 6 by kernel_rfl]; rfl) (by rw [show (Tryz.prog).cellsOf 61 = 6 by kernel_rfl]; omega) opens_rls
theorem opens_svc : Opens enc Tryz.prog W 64 (fun s : Svc => [.sc (.string s.name), .ls (s.rels.map rlsT)]) :=
  (opens_struct Tryz.underlying64 (by kernel_rfl) (OpensF.cons rfl (k := 1) (by kernel_rfl) (opens_string Tryz.underlying9) (OpensF.cons rfl (k := 1) (by kernel_rfl) opens_rlss OpensF.nil))).map (fun p : ByteArray × List Rls × Unit => ⟨p.1, p.2.1⟩) (fun p => rfl)
theorem opens_cat : Opens enc Tryz.prog W 24 (fun c : Ctl => [.ls (c.map svcT)]) :=
  (opens_struct Tryz.underlying24 (by kernel_rfl) (OpensF.cons rfl (k := 1) (by kernel_rfl) (opens_slice svcT (fun c => rfl) Tryz.underlying22 (fun c => by rw [show (Tryz.prog).cellsOf 64 = 2 by kernel_rfl]; rfl) (by rw [show (Tryz.prog).cellsOf 64 = 2 by kernel_rfl]; omega) opens_svc) OpensF.nil)).map (fun p : Ctl × Unit => p.1) (fun p => rfl)
theorem opens_ints : Opens enc Tryz.prog W 25 (fun l : List Int => [.ls (l.map fun v => .sc (.int .i64 v))]) :=
  opens_slice (fun v : Int => T.sc (.int .i64 v)) (fun c => rfl) Tryz.underlying25 (fun c => by rw [show (Tryz.prog).cellsOf 3 = 1 by kernel_rfl]; rfl) (by rw [show (Tryz.prog).cellsOf 3 = 1 by kernel_rfl]; omega) (opens_int Tryz.underlying3)
end
end Go.Lg.Tryz
