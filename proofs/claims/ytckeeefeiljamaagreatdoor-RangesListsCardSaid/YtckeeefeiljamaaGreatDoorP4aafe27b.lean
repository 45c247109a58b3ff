/- Words and laws that the theorem leans on (part 4). -/
import Derived.Test.YtckeeefeiljamaaGreatDoorP91203479
import Derived.Test.YtckeeefeiljamaaGreatDoorP89853c57
import Derived.Test.YtckeeefeiljamaaGreatDoorP3051009e
import Derived.Laws.Cover3
import Derived.Laws.BytesArg
import Derived.Laws.Entries
import Derived.Laws.Cover2
import Derived.ScopeJumps
import Derived.Laws.FloatArith
import Derived.Laws.Externs
import Derived.Test.YtckeeefeiljamaaGreatDoorRows
import Derived.Carry
import Derived.Lib.SmallJoins
import Derived.LaidMore
import Derived.PinnedBridge
import Derived.HandedShaped
import Derived.ProofKit
import Derived.OpenShut
import Derived.ShutString
import Derived.SizedLaws
import Derived.Stop.LaidErr
import Derived.Stop.Joined
import Derived.Shelf.Vars
import Derived.Lib.LaidTab
import Derived.MakeChecks
set_option linter.unusedVariables false
set_option linter.unusedSimpArgs false

set_option linter.unusedVariables false
set_option linter.unusedSimpArgs false
namespace Go.Lg.Tryz
open Go Go.Proofs Go.RowKit Go.Lib Go.Shelf Go.Lg.Sem
theorem Sq.splitSeq {G : Env} {n : Nat} {m : Store} {ops l : List Oper} {o : Oper} {s sep : ByteArray} {d : Nat} {K : Store → Prop} (κ0 κ1 κ2 : Loc) (h : evRaw n ops o m = some (28, [.string s, .string sep], d))
    (h3 : (κ0.isL && κ1.isL && κ2.isL && !κ0.eqb κ1 && !κ0.eqb κ2 && !κ1.eqb κ2) = true) (hf : (freshB [κ0, κ1, κ2] m && pinB [κ0, κ1, κ2] G.pins) = true)
    (k : Sq Tryz.prog G n ops l ((.s d, .fn 73 [.ptr κ1 0, .ptr κ0 0, .ptr κ2 0]) :: (κ2, .blk 3 [int 0]) :: (κ1, .blk 9 [str sep]) :: (κ0, .blk 9 [str s]) :: m) K) : Sq Tryz.prog G n ops (o :: l) m K := by
  refine Sq.raw (fr := [κ0, κ1, κ2]) (Post := fun w v w' => v = seqV w.heap.size ∧ w' = seqW s sep w) h ⟨_, Tryz.func28, rfl, rfl⟩ (fun w => (SplitSeq_any s sep w).mono fun e w' ⟨he, hw⟩ => ⟨_, he, rfl, hw⟩) hf (fun Γ M Ow a w v w' hpn hr hd hP => ?_) k
  obtain ⟨rfl, rfl⟩ := hP
  rw [Bool.and_eq_true] at hf
  exact hr.put3 hd h3 hpn hf.1 rfl rfl rfl 73
theorem Tr.split {G : Env} {n : Nat} {m : Store} {g t t' : Nat} {assign body : Code} {Q : Exit → Store → Prop} {κ0 κ1 κ2 : Loc} {s sep : ByteArray} (pins : List Loc) (S : Nat → Store) (inv : Nat → Prop) (hG : G.st = Gw)
    (hg : lk m (.s g) = some (.fn 73 [.ptr κ1 0, .ptr κ0 0, .ptr κ2 0])) (hb0 : lk m κ0 = some (.blk 9 [.tr (.sc (.string s))])) (hb1 : lk m κ1 = some (.blk 9 [.tr (.sc (.string sep))])) (hb2 : lk m κ2 = some (.blk 3 [.tr (.sc (.int .i64 0))]))
    (hL : (κ0.isL && κ1.isL && κ2.isL && !κ0.eqb κ1 && !κ0.eqb κ2) = true) (hs : s.size < 4294967281) (h1 : 1 ≤ sep.size) (ht : Nat.blt t n = true) (ht' : Nat.blt t' n = true)
    (hassign : ∀ (l k : Nat) (a : Act) (W : World) (K : Act → World → Prop), K (a.put (some t') (a.tmps.getD t undef)) W → assign.wpIn (FW (some l)) k Tryz.prog (Exit.then K fun _ _ _ => False) a W)
    (h0 : inv 0) (hs0 : Sub (S 0) m) (hok : ∀ k, okS pins (S k) = true) (hpb : ∀ k, pinsB (S k) pins = true) (hslots : ∀ k q v, lk (S 0) (.s q) = some v → lk (S k) (.s q) = some v)
    (hno : lk (S 0) κ0 = none ∧ lk (S 0) κ1 = none ∧ lk (S 0) κ2 = none) (hGp : G.pins.all (pins.contains ·) = true)
    (round : ∀ k p, (pieces sep s)[k]? = some p → inv k → Tr Tryz.prog ⟨G.st, pins⟩ n body ((.s t', .tr (.sc (.string p))) :: (.s t, .tr (.sc (.string p))) :: S k) (roundQ pins (S 0) (fun m' => inv (k + 1) ∧ OutL (S 0) (S (k + 1)) m') Q))
    (done : inv (pieces sep s).length → Q .normal (S (pieces sep s).length)) :
    Tr Tryz.prog G n (.rangeFunc (.tmp g) #[t] assign body) m Q :=
  Tr.range (xs := pieces sep s) (mx := 2) pins S inv hg hb0 hb1 hb2 hL (fun w hw => by have := (hG ▸ hw : Gw w).big; omega)
    (fun w b0 b1 b2 hw n1 n2 nm a0 a1 a2 => Seq.split_Iter 8 (by omega) s sep hs h1 w b0 b1 b2 n1 n2 nm a0 a1 a2 (hG ▸ hw)) (enters_of Tryz.func73 (by kernel_rfl) rfl) ht ht' hassign h0 hs0 hok hpb hslots hno hGp round done
abbrev parseA (r : Rng × Int) : AV := .tup [rngArg r.1, int r.2]
theorem rangeOk (s : ByteArray) (hs : s.size ≤ 1000000) : Rng.ok ((pieces bars s).map altL) ∧ ((pieces bars s).map altL).length ≤ 1000001 := by
  have h1 := pieces_lenS bars s (by decide)
  refine ⟨?_, by rw [List.length_map]; omega⟩
  intro l hl
  obtain ⟨a, ha, rfl⟩ := List.mem_map.1 hl
  have h2 := pieces_sizeS bars (by decide) s.size s rfl a ha
  have h3 := pieces_lenS sp a (by decide)
  refine ⟨by unfold altL; rw [List.length_map]; omega, ?_⟩
  intro c hc
  obtain ⟨t, ht, rfl⟩ := List.mem_map.1 hc
  have h4 := pieces_sizeS sp (by decide) a.size a rfl t ht
  have h5 := compV_size t
  show (compV t).1.v.p.size ≤ 1000000000
  omega
theorem rParse_ok (s : ByteArray) (hs : s.size ≤ 1000000) : Fn Tryz.prog Gw 12 [str s] [] (· = parseA (rangeV s)) := by
  obtain ⟨hok, hlen⟩ := rangeOk s hs
  have hsz := pieces_sizeS bars (by decide) s.size s rfl
  have hr : rangeV s = if (pieces bars s).all altOk = true ∧ rngRight ((pieces bars s).map altL) = true then ((pieces bars s).map altL, 0) else ([], 10) := rfl
  have hright := rngRight_ok _ hok (by omega)
  have hlen0 := pieces_lenS bars s (by decide)
  rw [hr]
  clear hr
  obtain ⟨xs, hxs⟩ : ∃ xs, pieces bars s = xs := ⟨_, rfl⟩
  rw [hxs] at hok hlen hsz hright hlen0 ⊢
  refine Fn.of tab_ok Tryz.func12 rfl (by decide) (by simp [Tryz.f12]) rfl (fun κ v h => by cases h) Gw.below ?_
  repeat' (first|refine zS ?_|refine zR ?_|refine zE tab_ok rfl rfl ?_|refine zN ?_|(refine zG rfl rfl (fun _ => ?_) fun _ => ?_)<;>refine zE tab_ok rfl rfl ?_|(refine zC rfl (fun _ => ?_) fun _ => ?_)<;>try (rename_i h; cases h; done)|refine zB ?_|refine zK ?_|refine zZ ⟨_, rfl, ?_⟩)
  refine Sq.splitSeq (.l 101) (.l 102) (.l 103) rfl rfl rfl ?_
  repeat' (first|refine zS ?_|refine zR ?_|refine zE tab_ok rfl rfl ?_|refine zN ?_|(refine zG rfl rfl (fun _ => ?_) fun _ => ?_)<;>refine zE tab_ok rfl rfl ?_|(refine zC rfl (fun _ => ?_) fun _ => ?_)<;>try (rename_i h; cases h; done)|refine zB ?_|refine zK ?_|refine zZ ⟨_, rfl, ?_⟩)
  refine Tr.split (s := s) (sep := bars) [.l 2, .l 3, .l 4] (fun k => [(.s 2, .ptr (.l 2) 0), (.l 2, .blk 25 [.own 46 []]), (.s 3, .ptr (.l 3) 0), (.l 3, .blk 26 [int 0]), (.s 4, .ptr (.l 4) 0), (.l 4, .blk 25 [.own 46 (((xs.take k).map altL).map cmpsT)])])
    (fun k => k ≤ xs.length ∧ (xs.take k).all altOk = true) rfl rfl rfl rfl rfl rfl (by omega) (by decide) rfl rfl (fun l k a W K hK => assign_move l k a W K hK) ⟨by omega, rfl⟩ (Sub.app (l := [_, _, _, _, _, _]) (H := []) ⟨rfl, rfl, rfl, rfl, rfl, rfl, trivial⟩ (fun κ v h => nomatch h))
    (fun k => rfl) (fun k => rfl) (fun k q v h => h) ⟨rfl, rfl, rfl⟩ rfl ?_ ?_
  · rintro k alt hk ⟨hk1, hinv⟩
    rw [hxs] at hk
    obtain ⟨hlt, hka⟩ := List.getElem?_eq_some_iff.1 hk
    have ham : alt ∈ xs := hka ▸ List.getElem_mem hlt
    have haz := hsz alt ham
    have halen := pieces_lenS sp alt (by decide)
    have hasz := pieces_sizeS sp (by decide) alt.size alt rfl
    have hstep : ((xs.take (k + 1)).map altL).map cmpsT = ((xs.take k).map altL).map cmpsT ++ [cmpsT (altL alt)] := by
      rw [List.take_succ_eq_append_getElem hlt, hka]; simp
    have hall : (xs.take (k + 1)).all altOk = ((xs.take k).all altOk && altOk alt) := by
      rw [List.take_succ_eq_append_getElem hlt, List.all_append, hka]; simp
    have hbad : altOk alt = false → ¬ (xs.all altOk = true ∧ rngRight (xs.map altL) = true) := fun h ⟨h2, _⟩ => by
      rw [List.all_eq_true] at h2
      rw [h2 alt ham] at h; cases h
    have hao : altOk alt = (pieces sp alt).all fun t => (compV t).2 := rfl
    have hal : altL alt = (pieces sp alt).map fun t => (compV t).1 := rfl
    obtain ⟨ys, hys⟩ : ∃ ys, pieces sp alt = ys := ⟨_, rfl⟩
    rw [hys] at halen hasz hao hal
    repeat' (first|refine zS ?_|refine zR ?_|refine zE tab_ok rfl rfl ?_|refine zN ?_|(refine zG rfl rfl (fun _ => ?_) fun _ => ?_)<;>refine zE tab_ok rfl rfl ?_|(refine zC rfl (fun _ => ?_) fun _ => ?_)<;>try (rename_i h; cases h; done)|refine zB ?_|refine zK ?_|refine zZ ⟨_, rfl, ?_⟩)
    refine Sq.splitSeq (.l 111) (.l 112) (.l 113) rfl rfl rfl ?_
    repeat' (first|refine zS ?_|refine zR ?_|refine zE tab_ok rfl rfl ?_|refine zN ?_|(refine zG rfl rfl (fun _ => ?_) fun _ => ?_)<;>refine zE tab_ok rfl rfl ?_|(refine zC rfl (fun _ => ?_) fun _ => ?_)<;>try (rename_i h; cases h; done)|refine zB ?_|refine zK ?_|refine zZ ⟨_, rfl, ?_⟩)
    refine Tr.split (s := alt) (sep := sp) [.l 2, .l 3, .l 4, .l 6] (fun j => [(.s 2, .ptr (.l 2) 0), (.l 2, .blk 25 [.own 46 []]), (.s 3, .ptr (.l 3) 0), (.l 3, .blk 26 [int 0]), (.s 4, .ptr (.l 4) 0), (.l 4, .blk 25 [.own 46 (((xs.take k).map altL).map cmpsT)]),
        (.s 6, .ptr (.l 6) 0), (.l 6, .blk 46 [.own 48 (((ys.take j).map fun t => (compV t).1).map Cmp.t)])])
      (fun j => j ≤ ys.length ∧ (ys.take j).all (fun t => (compV t).2) = true) rfl rfl rfl rfl rfl rfl (by omega) (by decide) rfl rfl (fun l k a W K hK => assign_move l k a W K hK) ⟨by omega, rfl⟩ (Sub.app (l := [_, _, _, _, _, _, _, _]) (H := []) ⟨rfl, rfl, rfl, rfl, rfl, rfl, rfl, rfl, trivial⟩ (fun κ v h => nomatch h))
      (fun k => rfl) (fun k => rfl) (fun k q v h => h) ⟨rfl, rfl, rfl⟩ rfl ?_ ?_
    · rintro j t hj ⟨hj1, hjv⟩
      rw [hys] at hj
      obtain ⟨hjlt, hja⟩ := List.getElem?_eq_some_iff.1 hj
      have htm : t ∈ ys := hja ▸ List.getElem_mem hjlt
      have htz := hasz t htm
      have hcp := comp_ok t (by omega)
      have hjs : ((ys.take (j + 1)).map fun t => (compV t).1).map Cmp.t = ((ys.take j).map fun t => (compV t).1).map Cmp.t ++ [Cmp.t (compV t).1] := by
        rw [List.take_succ_eq_append_getElem hjlt, hja]; simp
      have hjo : (ys.take (j + 1)).all (fun t => (compV t).2) = ((ys.take j).all (fun t => (compV t).2) && (compV t).2) := by
        rw [List.take_succ_eq_append_getElem hjlt, List.all_append, hja]; simp
      have htb : (compV t).2 = false → altOk alt = false := fun h => by
        rw [hao, ← Bool.not_eq_true, List.all_eq_true]
        intro h2
        rw [h2 t htm] at h; cases h
      generalize compV t = c at hcp hjs hjo htb
      repeat' (first|refine zS ?_|refine zR ?_|refine zE tab_ok rfl rfl ?_|refine zN ?_|(refine zG rfl rfl (fun _ => ?_) fun _ => ?_)<;>refine zE tab_ok rfl rfl ?_|(refine zC rfl (fun _ => ?_) fun _ => ?_)<;>try (rename_i h; cases h; done)|refine zB ?_|refine zK ?_|refine zZ ⟨_, rfl, ?_⟩)
      refine Sq.callv rfl (hcp) ?_
      repeat' (first|refine zS ?_|refine zR ?_|refine zE tab_ok rfl rfl ?_|refine zN ?_|(refine zG rfl rfl (fun _ => ?_) fun _ => ?_)<;>refine zE tab_ok rfl rfl ?_|(refine zC rfl (fun _ => ?_) fun _ => ?_)<;>try (rename_i h; cases h; done)|refine zB ?_|refine zK ?_|refine zZ ⟨_, rfl, ?_⟩)
      · rename_i h
        have h : c.2 = false := by simpa using h
        refine zZ ?_
        refine ⟨[(.s 2, .ptr (.l 2) 0), (.l 2, .blk 25 [.tr (.ls [])]), (.s 3, .ptr (.l 3) 0), (.l 3, .blk 26 [int 10])], ⟨rfl, rfl, rfl, rfl, trivial⟩, rfl, ?_⟩
        refine ⟨[(.s 2, .ptr (.l 2) 0), (.l 2, .blk 25 [.tr (.ls [])]), (.s 3, .ptr (.l 3) 0), (.l 3, .blk 26 [int 10])], ⟨rfl, rfl, rfl, rfl, trivial⟩, rfl, ?_⟩
        refine ⟨_, rfl, ?_⟩
        refine (?_ : _ = _)
        rw [if_neg (hbad (htb h))]; rfl
      · rename_i h
        have h : c.2 = true := by simpa using h
        refine Sq.append tab_ok rfl (by intro y hy; simp only [List.mem_singleton] at hy; subst hy; rfl) (by simp; omega) ?_
        repeat' (first|refine zS ?_|refine zR ?_|refine zE tab_ok rfl rfl ?_|refine zN ?_|(refine zG rfl rfl (fun _ => ?_) fun _ => ?_)<;>refine zE tab_ok rfl rfl ?_|(refine zC rfl (fun _ => ?_) fun _ => ?_)<;>try (rename_i h; cases h; done)|refine zB ?_|refine zK ?_|refine zZ ⟨_, rfl, ?_⟩)
        refine ⟨⟨by omega, by rw [hjo, hjv, h]; rfl⟩, ?_⟩
        exact ⟨rfl, rfl, rfl, rfl, rfl, rfl, rfl, congrArg some (congrArg (fun x => AV.blk _ [AV.own _ x]) hjs.symm), trivial⟩
    · rintro ⟨_, hjv⟩
      rw [hys, List.take_of_length_le (Nat.le_refl _)] at hjv
      rw [hys, List.take_of_length_le (Nat.le_refl _)]
      repeat' (first|refine zS ?_|refine zR ?_|refine zE tab_ok rfl rfl ?_|refine zN ?_|(refine zG rfl rfl (fun _ => ?_) fun _ => ?_)<;>refine zE tab_ok rfl rfl ?_|(refine zC rfl (fun _ => ?_) fun _ => ?_)<;>try (rename_i h; cases h; done)|refine zB ?_|refine zK ?_|refine zZ ⟨_, rfl, ?_⟩)
      refine Sq.append tab_ok rfl (by intro y hy; simp only [List.mem_singleton] at hy; subst hy; rfl) (by simp; omega) ?_
      repeat' (first|refine zS ?_|refine zR ?_|refine zE tab_ok rfl rfl ?_|refine zN ?_|(refine zG rfl rfl (fun _ => ?_) fun _ => ?_)<;>refine zE tab_ok rfl rfl ?_|(refine zC rfl (fun _ => ?_) fun _ => ?_)<;>try (rename_i h; cases h; done)|refine zB ?_|refine zK ?_|refine zZ ⟨_, rfl, ?_⟩)
      refine ⟨⟨by omega, by rw [hall, hinv, hao, hjv]; rfl⟩, ?_⟩
      rw [hal] at hstep
      exact ⟨rfl, rfl, rfl, rfl, rfl, congrArg some (congrArg (fun x => AV.blk _ [AV.own _ x]) hstep.symm), trivial⟩
  · rintro ⟨_, hinv⟩
    rw [hxs, List.take_of_length_le (Nat.le_refl _)] at hinv
    rw [hxs, List.take_of_length_le (Nat.le_refl _)]
    repeat' (first|refine zS ?_|refine zR ?_|refine zE tab_ok rfl rfl ?_|refine zN ?_|(refine zG rfl rfl (fun _ => ?_) fun _ => ?_)<;>refine zE tab_ok rfl rfl ?_|(refine zC rfl (fun _ => ?_) fun _ => ?_)<;>try (rename_i h; cases h; done)|refine zB ?_|refine zK ?_|refine zZ ⟨_, rfl, ?_⟩)
    refine Sq.callv rfl (hright) ?_
    repeat' (first|refine zS ?_|refine zR ?_|refine zE tab_ok rfl rfl ?_|refine zN ?_|(refine zG rfl rfl (fun _ => ?_) fun _ => ?_)<;>refine zE tab_ok rfl rfl ?_|(refine zC rfl (fun _ => ?_) fun _ => ?_)<;>try (rename_i h; cases h; done)|refine zB ?_|refine zK ?_|refine zZ ⟨_, rfl, ?_⟩)
    · rename_i h
      have h : rngRight (xs.map altL) = false := by simpa using h
      refine (?_ : _ = _)
      rw [if_neg (by rw [h]; simp)]; rfl
    · rename_i h
      have h : rngRight (xs.map altL) = true := by simpa using h
      refine (?_ : _ = _)
      rw [if_pos ⟨hinv, h⟩]
end Go.Lg.Tryz

set_option linter.unusedVariables false
set_option linter.unusedSimpArgs false
namespace Go.Lg.Tryz
open Go Go.Proofs Go.RowKit Go.Lib Go.Shelf Go.Lg.Sem
def ax1 : ByteArray := ⟨#[94, 48, 46, 50, 46, 51]⟩
def ax2 : ByteArray := ⟨#[62, 61, 49, 46, 48, 46, 48, 32, 60, 50, 46, 48, 46, 48, 32, 124, 124, 32, 61, 51, 46, 48, 46, 48]⟩
def ax3 : ByteArray := ⟨#[49, 46, 48, 46, 48]⟩
def ar1 : Rng := [[⟨6, ⟨0, 2, 3, ⟨#[]⟩⟩⟩]]
def ar2 : Rng := [[⟨5, ⟨1, 0, 0, ⟨#[]⟩⟩⟩, ⟨2, ⟨2, 0, 0, ⟨#[]⟩⟩⟩], [⟨1, ⟨3, 0, 0, ⟨#[]⟩⟩⟩]]
theorem ap1 : rangeV ax1 = (ar1, 0) := by with_unfolding_all decide +kernel
theorem ap2 : rangeV ax2 = (ar2, 0) := by with_unfolding_all decide +kernel
theorem ap3 : rangeV ax3 = ([], 10) := by with_unfolding_all decide +kernel
theorem ah1 : hasR ar1 ⟨0, 2, 9, ⟨#[]⟩⟩ = true := by with_unfolding_all decide +kernel
theorem ah2 : hasR ar1 ⟨0, 3, 0, ⟨#[]⟩⟩ = false := by with_unfolding_all decide +kernel
theorem ah3 : hasR ar1 ⟨0, 2, 3, ⟨#[97]⟩⟩ = false := by with_unfolding_all decide +kernel
theorem ah4 : hasR ar2 ⟨3, 0, 0, ⟨#[]⟩⟩ = true := by with_unfolding_all decide +kernel
theorem ah5 : hasR ar2 ⟨2, 0, 0, ⟨#[]⟩⟩ = false := by with_unfolding_all decide +kernel
theorem anchor_ok : Fn Tryz.prog Gw 11 [] [] (· = bool true) := by
  have p1 := rParse_ok ax1 (by decide)
  have p2 := rParse_ok ax2 (by decide)
  have p3 := rParse_ok ax3 (by decide)
  rw [ap1] at p1
  rw [ap2] at p2
  rw [ap3] at p3
  have z0 : ∀ a b c : Int, Ver.ok ⟨a, b, c, ⟨#[]⟩⟩ := ok_nil
  have o1 : ar1.ok := by intro l hl; simp only [ar1, List.mem_singleton] at hl; subst hl; refine ⟨by decide, ?_⟩; intro c hc; simp only [List.mem_singleton] at hc; subst hc; exact z0 _ _ _
  have o2 : ar2.ok := by
    intro l hl
    simp only [ar2, List.mem_cons, List.not_mem_nil, or_false] at hl
    rcases hl with rfl | rfl
    · refine ⟨by decide, ?_⟩; intro c hc; simp only [List.mem_cons, List.not_mem_nil, or_false] at hc; rcases hc with rfl | rfl <;> exact z0 _ _ _
    · refine ⟨by decide, ?_⟩; intro c hc; simp only [List.mem_cons, List.not_mem_nil, or_false] at hc; subst hc; exact z0 _ _ _
  have h1 := hasR_ok ar1 ⟨0, 2, 9, ⟨#[]⟩⟩ o1 (by decide) (z0 _ _ _)
  have h2 := hasR_ok ar1 ⟨0, 3, 0, ⟨#[]⟩⟩ o1 (by decide) (z0 _ _ _)
  have h3 := hasR_ok ar1 ⟨0, 2, 3, ⟨#[97]⟩⟩ o1 (by decide) (by show (ByteArray.mk #[97]).size ≤ 1000000000; decide)
  have h4 := hasR_ok ar2 ⟨3, 0, 0, ⟨#[]⟩⟩ o2 (by decide) (z0 _ _ _)
  have h5 := hasR_ok ar2 ⟨2, 0, 0, ⟨#[]⟩⟩ o2 (by decide) (z0 _ _ _)
  rw [ah1] at h1
  rw [ah2] at h2
  rw [ah3] at h3
  rw [ah4] at h4
  rw [ah5] at h5
  refine Fn.of tab_ok Tryz.func11 rfl (by decide) (by simp [Tryz.f11]) rfl (fun κ v h => by cases h) Gw.below ?_
  repeat' (first|refine zS ?_|refine zR ?_|refine zE tab_ok rfl rfl ?_|refine zN ?_|(refine zG rfl rfl (fun _ => ?_) fun _ => ?_)<;>refine zE tab_ok rfl rfl ?_|(refine zC rfl (fun _ => ?_) fun _ => ?_)<;>try (rename_i h; cases h; done)|refine zB ?_|refine zK ?_|refine zZ ⟨_, rfl, ?_⟩)
  refine Sq.callv rfl (p1) ?_
  repeat' (first|refine zS ?_|refine zR ?_|refine zE tab_ok rfl rfl ?_|refine zN ?_|(refine zG rfl rfl (fun _ => ?_) fun _ => ?_)<;>refine zE tab_ok rfl rfl ?_|(refine zC rfl (fun _ => ?_) fun _ => ?_)<;>try (rename_i h; cases h; done)|refine zB ?_|refine zK ?_|refine zZ ⟨_, rfl, ?_⟩)
  refine Sq.callv rfl (p2) ?_
  repeat' (first|refine zS ?_|refine zR ?_|refine zE tab_ok rfl rfl ?_|refine zN ?_|(refine zG rfl rfl (fun _ => ?_) fun _ => ?_)<;>refine zE tab_ok rfl rfl ?_|(refine zC rfl (fun _ => ?_) fun _ => ?_)<;>try (rename_i h; cases h; done)|refine zB ?_|refine zK ?_|refine zZ ⟨_, rfl, ?_⟩)
  refine Sq.callv rfl (p3) ?_
  repeat' (first|refine zS ?_|refine zR ?_|refine zE tab_ok rfl rfl ?_|refine zN ?_|(refine zG rfl rfl (fun _ => ?_) fun _ => ?_)<;>refine zE tab_ok rfl rfl ?_|(refine zC rfl (fun _ => ?_) fun _ => ?_)<;>try (rename_i h; cases h; done)|refine zB ?_|refine zK ?_|refine zZ ⟨_, rfl, ?_⟩)
  refine Sq.callv rfl (h1) ?_
  repeat' (first|refine zS ?_|refine zR ?_|refine zE tab_ok rfl rfl ?_|refine zN ?_|(refine zG rfl rfl (fun _ => ?_) fun _ => ?_)<;>refine zE tab_ok rfl rfl ?_|(refine zC rfl (fun _ => ?_) fun _ => ?_)<;>try (rename_i h; cases h; done)|refine zB ?_|refine zK ?_|refine zZ ⟨_, rfl, ?_⟩)
  refine Sq.callv rfl (h2) ?_
  repeat' (first|refine zS ?_|refine zR ?_|refine zE tab_ok rfl rfl ?_|refine zN ?_|(refine zG rfl rfl (fun _ => ?_) fun _ => ?_)<;>refine zE tab_ok rfl rfl ?_|(refine zC rfl (fun _ => ?_) fun _ => ?_)<;>try (rename_i h; cases h; done)|refine zB ?_|refine zK ?_|refine zZ ⟨_, rfl, ?_⟩)
  refine Sq.callv rfl (h3) ?_
  repeat' (first|refine zS ?_|refine zR ?_|refine zE tab_ok rfl rfl ?_|refine zN ?_|(refine zG rfl rfl (fun _ => ?_) fun _ => ?_)<;>refine zE tab_ok rfl rfl ?_|(refine zC rfl (fun _ => ?_) fun _ => ?_)<;>try (rename_i h; cases h; done)|refine zB ?_|refine zK ?_|refine zZ ⟨_, rfl, ?_⟩)
  refine Sq.callv rfl (h4) ?_
  repeat' (first|refine zS ?_|refine zR ?_|refine zE tab_ok rfl rfl ?_|refine zN ?_|(refine zG rfl rfl (fun _ => ?_) fun _ => ?_)<;>refine zE tab_ok rfl rfl ?_|(refine zC rfl (fun _ => ?_) fun _ => ?_)<;>try (rename_i h; cases h; done)|refine zB ?_|refine zK ?_|refine zZ ⟨_, rfl, ?_⟩)
  refine Sq.callv rfl (h5) ?_
  repeat' (first|refine zS ?_|refine zR ?_|refine zE tab_ok rfl rfl ?_|refine zN ?_|(refine zG rfl rfl (fun _ => ?_) fun _ => ?_)<;>refine zE tab_ok rfl rfl ?_|(refine zC rfl (fun _ => ?_) fun _ => ?_)<;>try (rename_i h; cases h; done)|refine zB ?_|refine zK ?_|refine zZ ⟨_, rfl, ?_⟩)
  rfl
end Go.Lg.Tryz

set_option linter.unusedVariables false
set_option linter.unusedSimpArgs false
namespace Go.Lg.Tryz
open Go Go.Proofs Go.RowKit Go.Lib Go.Lg.Sem
abbrev u8 (b : UInt8) : AV := .tr (byteT b)
end Go.Lg.Tryz

set_option linter.unusedVariables false
set_option linter.unusedSimpArgs false
namespace Go.Lg.Tryz
open Go Go.Proofs Go.RowKit Go.Lib Go.Lg.Sem
end Go.Lg.Tryz

set_option linter.unusedVariables false
set_option linter.unusedSimpArgs false
namespace Go.Lg.Tryz
open Go Go.Proofs Go.RowKit Go.Lib Go.Lg.Sem
end Go.Lg.Tryz

set_option linter.unusedVariables false
set_option linter.unusedSimpArgs false
namespace Go.Lg.Tryz
open Go Go.Proofs Go.RowKit Go.Lib Go.Lg.Sem
end Go.Lg.Tryz

set_option linter.unusedVariables false
set_option linter.unusedSimpArgs false
namespace Go.Lg.Tryz
open Go Go.Proofs Go.RowKit Go.Lib Go.Lg.Sem
end Go.Lg.Tryz

set_option linter.unusedVariables false
set_option linter.unusedSimpArgs false
namespace Go.Lg.Tryz
open Go Go.Proofs Go.RowKit Go.Lib Go.Lg.Sem
def PlainR (r : Rng) (x : AV) : Prop := ∃ q : Rng, x = .tup [rngArg q, bool (plainR 20 r)] ∧ (plainR 20 r = true → q = r)
theorem plain_ok (r : Rng) : Fn Tryz.prog Gw 14 [.tr (rngT r)] [] (PlainR r) := by
  refine Fn.of tab_ok Tryz.func14 rfl (by decide) (by simp [Tryz.f14]) rfl (fun κ v h => by cases h) Gw.below ?_
  repeat' (first|refine zS ?_|refine zR ?_|refine zE tab_ok rfl rfl ?_|refine zN ?_|(refine zG rfl rfl (fun _ => ?_) fun _ => ?_)<;>refine zE tab_ok rfl rfl ?_|(refine zC rfl (fun _ => ?_) fun _ => ?_)<;>try (rename_i h; cases h; done)|refine zB ?_|refine zK ?_|refine zZ ⟨_, rfl, ?_⟩)
  · rename_i h
    have : plainR 20 r = false := by
      simp only [List.length_map, decide_eq_true_eq] at h
      unfold plainR; rw [decide_eq_false (by omega), Bool.false_and]
    exact ⟨[], by rw [this]; rfl, by rw [this]; intro h; cases h⟩
  · rename_i h
    have hz : plainR 20 r = r.all (plainL 20) := by
      simp only [List.length_map, decide_eq_false_iff_not] at h
      unfold plainR; rw [decide_eq_true (by omega), Bool.true_and]
    have hlen : r.length ≤ 20 := by simp only [List.length_map, decide_eq_false_iff_not] at h; omega
    refine Tr.loopS (fun i : Nat => [(.s 2, .ptr (.l 2) 0), (.l 2, .blk 31 [.own 51 []]), (.s 4, .ptr (.l 4) 0), (.l 4, .blk 31 [.own 51 ((r.take i).map cmpsT)]), (.s 16, .tr (.ls (r.map cmpsT))), (.s 17, int (r.map cmpsT).length), (.s 18, int i)]) (fun i => r.length - i)
      (fun i => i ≤ r.length ∧ (r.take i).all (plainL 20) = true)
      0 ⟨by omega, by simp⟩ (Sub.app (l := [_, _, _, _, _, _, _]) (H := []) ⟨rfl, rfl, rfl, rfl, rfl, rfl, rfl, trivial⟩ (fun κ v h => nomatch h)) ?_
    rintro i ⟨hi, hp⟩
    have bad : plainR 20 r = false → PlainR r (.tup [rngArg (r.take i), bool false]) := fun h => ⟨r.take i, by rw [h], by rw [h]; intro h; cases h⟩
    repeat' (first|refine zS ?_|refine zR ?_|refine zE tab_ok rfl rfl ?_|refine zN ?_|(refine zG rfl rfl (fun _ => ?_) fun _ => ?_)<;>refine zE tab_ok rfl rfl ?_|(refine zC rfl (fun _ => ?_) fun _ => ?_)<;>try (rename_i h; cases h; done)|refine zB ?_|refine zK ?_|refine zZ ⟨_, rfl, ?_⟩)
    · rename_i h
      have hlt : i < r.length := by simp only [List.length_map, decide_eq_true_eq] at h; omega
      have bad2 : plainL 20 r[i] = false → plainR 20 r = false := fun hb => by
        rw [hz, ← Bool.not_eq_true, List.all_eq_true]
        intro h
        rw [h _ (List.getElem_mem hlt)] at hb; cases hb
      obtain ⟨l, hl⟩ : ∃ l, r[i] = l := ⟨_, rfl⟩
      have he : (r.map cmpsT)[i]? = some (cmpsT l) := by rw [List.getElem?_map, List.getElem?_eq_getElem hlt, hl]; rfl
      rw [hl] at bad2
      refine zI (x := cmpsT l) tab_ok rfl (by omega) (by simpa using he) rfl ?_
      repeat' (first|refine zS ?_|refine zR ?_|refine zE tab_ok rfl rfl ?_|refine zN ?_|(refine zG rfl rfl (fun _ => ?_) fun _ => ?_)<;>refine zE tab_ok rfl rfl ?_|(refine zC rfl (fun _ => ?_) fun _ => ?_)<;>try (rename_i h; cases h; done)|refine zB ?_|refine zK ?_|refine zZ ⟨_, rfl, ?_⟩)
      · rename_i h
        exact bad (bad2 (by simp only [List.length_map, decide_eq_true_eq] at h; unfold plainL; rw [decide_eq_false (by omega), Bool.false_and]))
      · rename_i h
        have hz2 : plainL 20 l = l.all plainC := by
          simp only [List.length_map, decide_eq_false_iff_not] at h
          unfold plainL; rw [decide_eq_true (by omega), Bool.true_and]
        have hlen2 : l.length ≤ 20 := by simp only [List.length_map, decide_eq_false_iff_not] at h; omega
        refine Tr.loopS (fun k : Nat => [(.s 2, .ptr (.l 2) 0), (.l 2, .blk 31 [.own 51 []]), (.s 4, .ptr (.l 4) 0), (.l 4, .blk 31 [.own 51 ((r.take i).map cmpsT)]), (.s 16, .tr (.ls (r.map cmpsT))), (.s 17, int (r.map cmpsT).length), (.s 18, int i),
            (.s 7, .own 53 ((l.take k).map Cmp.t)), (.s 26, .tr (.ls (l.map Cmp.t))), (.s 27, int (l.map Cmp.t).length), (.s 28, int k)]) (fun k => l.length - k)
          (fun k => k ≤ l.length ∧ (l.take k).all plainC = true)
          0 ⟨by omega, by simp⟩ (Sub.app (l := [_, _, _, _, _, _, _, _, _, _, _]) (H := []) ⟨rfl, rfl, rfl, rfl, rfl, rfl, rfl, rfl, rfl, rfl, rfl, trivial⟩ (fun κ v h => nomatch h)) ?_
        rintro k ⟨hk, hq⟩
        repeat' (first|refine zS ?_|refine zR ?_|refine zE tab_ok rfl rfl ?_|refine zN ?_|(refine zG rfl rfl (fun _ => ?_) fun _ => ?_)<;>refine zE tab_ok rfl rfl ?_|(refine zC rfl (fun _ => ?_) fun _ => ?_)<;>try (rename_i h; cases h; done)|refine zB ?_|refine zK ?_|refine zZ ⟨_, rfl, ?_⟩)
        · rename_i h5
          have hk2 : k < l.length := by simp only [List.length_map, decide_eq_true_eq] at h5; omega
          obtain ⟨c, hc⟩ : ∃ c, l[k] = c := ⟨_, rfl⟩
          have hcm : c ∈ l := hc ▸ List.getElem_mem hk2
          have hce : (l.map Cmp.t)[k]? = some (Cmp.t c) := by rw [List.getElem?_map, List.getElem?_eq_getElem hk2, hc]; rfl
          refine zI (x := Cmp.t c) tab_ok rfl (by omega) (by simpa using hce) rfl ?_
          repeat' (first|refine zS ?_|refine zR ?_|refine zE tab_ok rfl rfl ?_|refine zN ?_|(refine zG rfl rfl (fun _ => ?_) fun _ => ?_)<;>refine zE tab_ok rfl rfl ?_|(refine zC rfl (fun _ => ?_) fun _ => ?_)<;>try (rename_i h; cases h; done)|refine zB ?_|refine zK ?_|refine zZ ⟨_, rfl, ?_⟩)
          all_goals rename_i h6
          · refine bad (bad2 ?_)
            have hb : plainC c = false := by simp only [decide_eq_true_eq] at h6; unfold plainC; rw [decide_eq_false (by omega)]
            rw [hz2, ← Bool.not_eq_true, List.all_eq_true]
            intro h
            rw [h _ hcm] at hb; cases hb
          · have hb : plainC c = true := by simp only [decide_eq_false_iff_not] at h6; unfold plainC; rw [decide_eq_true (by omega)]
            refine Sq.append tab_ok rfl (by intro y hy; simp only [List.mem_singleton] at hy; subst hy; rfl) (by simp; omega) ?_
            repeat' (first|refine zS ?_|refine zR ?_|refine zE tab_ok rfl rfl ?_|refine zN ?_|(refine zG rfl rfl (fun _ => ?_) fun _ => ?_)<;>refine zE tab_ok rfl rfl ?_|(refine zC rfl (fun _ => ?_) fun _ => ?_)<;>try (rename_i h; cases h; done)|refine zB ?_|refine zK ?_|refine zZ ⟨_, rfl, ?_⟩)
            refine ⟨k + 1, ⟨by omega, ?_⟩, by omega, Sub.app (l := [_, _, _, _, _, _, _, _, _, _, _]) (H := []) ⟨rfl, rfl, rfl, rfl, rfl, rfl, rfl, congrArg some (congrArg (AV.own _) (by rw [List.take_succ_eq_append_getElem hk2, List.map_append, hc]; rfl)), rfl, rfl, congrArg some (wrapz (by omega) (by omega) (by omega)), trivial⟩ (fun κ v h => nomatch h)⟩
            rw [List.take_succ_eq_append_getElem hk2, List.all_append, hq, hc]; simp [hb]
        · rename_i h5
          have hk2 : l.length ≤ k := by simp only [List.length_map, decide_eq_false_iff_not] at h5; omega
          rw [List.take_of_length_le hk2] at hq ⊢
          refine Tr.exit ?_
          repeat' (first|refine zS ?_|refine zR ?_|refine zE tab_ok rfl rfl ?_|refine zN ?_|(refine zG rfl rfl (fun _ => ?_) fun _ => ?_)<;>refine zE tab_ok rfl rfl ?_|(refine zC rfl (fun _ => ?_) fun _ => ?_)<;>try (rename_i h; cases h; done)|refine zB ?_|refine zK ?_|refine zZ ⟨_, rfl, ?_⟩)
          refine Sq.append tab_ok rfl (by intro y hy; simp only [List.mem_singleton] at hy; subst hy; rfl) (by simp; omega) ?_
          repeat' (first|refine zS ?_|refine zR ?_|refine zE tab_ok rfl rfl ?_|refine zN ?_|(refine zG rfl rfl (fun _ => ?_) fun _ => ?_)<;>refine zE tab_ok rfl rfl ?_|(refine zC rfl (fun _ => ?_) fun _ => ?_)<;>try (rename_i h; cases h; done)|refine zB ?_|refine zK ?_|refine zZ ⟨_, rfl, ?_⟩)
          refine ⟨i + 1, ⟨by omega, ?_⟩, by omega, Sub.app (l := [_, _, _, _, _, _, _]) (H := []) ⟨rfl, rfl, rfl, congrArg some (congrArg (fun x => AV.blk _ [AV.own _ x]) (by rw [List.take_succ_eq_append_getElem hlt, List.map_append, hl]; rfl)), rfl, rfl, congrArg some (wrapz (by omega) (by omega) (by omega)), trivial⟩ (fun κ v h => nomatch h)⟩
          rw [List.take_succ_eq_append_getElem hlt, List.all_append, hp, hl]; simp [hz2, hq]
    · rename_i h
      have hge : r.length ≤ i := by simp only [List.length_map, decide_eq_false_iff_not] at h; omega
      rw [List.take_of_length_le hge] at hp ⊢
      refine Tr.exit ?_
      repeat' (first|refine zS ?_|refine zR ?_|refine zE tab_ok rfl rfl ?_|refine zN ?_|(refine zG rfl rfl (fun _ => ?_) fun _ => ?_)<;>refine zE tab_ok rfl rfl ?_|(refine zC rfl (fun _ => ?_) fun _ => ?_)<;>try (rename_i h; cases h; done)|refine zB ?_|refine zK ?_|refine zZ ⟨_, rfl, ?_⟩)
      exact ⟨r, by rw [hz, hp], fun _ => rfl⟩
end Go.Lg.Tryz

set_option linter.unusedVariables false
set_option linter.unusedSimpArgs false
namespace Go.Lg.Tryz
open Go Go.Proofs Go.RowKit Go.Lib Go.Lg.Sem
end Go.Lg.Tryz

set_option linter.unusedVariables false
set_option linter.unusedSimpArgs false
namespace Go.Lg.Tryz
open Go Go.Proofs Go.RowKit Go.Lib Go.Lg.Sem
end Go.Lg.Tryz

set_option linter.unusedVariables false
set_option linter.unusedSimpArgs false
namespace Go.Lg.Sem
open Go Go.Lib
theorem plain_ok_of {m : Nat} {r : Rng} (h : plainR m r = true) (hm : m ≤ 1000) : r.ok ∧ r.length ≤ m ∧ ∀ l, l ∈ r → l.length ≤ m := by
  unfold plainR at h
  rw [Bool.and_eq_true, List.all_eq_true] at h
  have h2 : ∀ l, l ∈ r → l.length ≤ m ∧ ∀ c, c ∈ l → c.v.p.size ≤ 100 := fun l hl => by
    have := h.2 l hl
    unfold plainL at this
    rw [Bool.and_eq_true, List.all_eq_true] at this
    refine ⟨of_decide_eq_true this.1, fun c hc => ?_⟩
    have := this.2 c hc
    unfold plainC at this
    exact of_decide_eq_true this
  refine ⟨fun l hl => ⟨?_, fun c hc => ?_⟩, of_decide_eq_true h.1, fun l hl => (h2 l hl).1⟩
  · have := (h2 l hl).1; omega
  · have := (h2 l hl).2 c hc
    show c.v.p.size ≤ 1000000000
    omega
end Go.Lg.Sem

set_option linter.unusedVariables false
set_option linter.unusedSimpArgs false
namespace Go.Lg
open Go Go.RowKit
section
variable {P : Program} {G : Env} {n : Nat} {tab : Tab} {m : Store}
end
end Go.Lg

set_option linter.unusedVariables false
set_option linter.unusedSimpArgs false
namespace Go.Lg
open Go Go.RowKit
section
variable {P : Program} {G : Env} {n : Nat} {tab : Tab} {m : Store}
def evDiv (n : Nat) (ops : List Oper) (o : Oper) (m : Store) : Option (IntKind × Int × Int × Bool × Nat) := match o.op, o.dst, gOk m ops o.guard with
  | .binOp op _ x y _, some d, true => match Nat.blt d n, opV m x, opV m y with
    | true, some (.tr (.sc (.int k a))), some (.tr (.sc (.int k' b))) => match decide (k = k'), op with
      | true, .quo => some (k, a, b, true, d)
      | true, .rem => some (k, a, b, false, d)
      | _, _ => none
    | _, _, _ => none
  | _, _, _ => none
theorem Sq.div {ops l : List Oper} {o : Oper} {k : IntKind} {a b c : Int} {q : Bool} {d : Nat} {K : Store → Prop} (h : evDiv n ops o m = some (k, a, b, q, d)) (hb : b ≠ 0) (hc : (if q then k.wrap (a.tdiv b) else a.tmod b) = c)
    (k : Sq P G n ops l ((.s d, .tr (.sc (.int k c))) :: m) K) : Sq P G n ops (o :: l) m K := by
  subst hc
  obtain ⟨dst, op, type, pos, after, guard⟩ := o
  unfold evDiv at h
  simp only at h
  split at h
  · rename_i op' ty x y ty' d' hgd
    split at h
    · rename_i k1 a' k2 b' hlt hx hy
      split at h
      · rename_i hk
        obtain rfl := of_decide_eq_true hk
        simp only [Option.some.injEq, Prod.mk.injEq] at h
        obtain ⟨rfl, rfl, rfl, rfl, rfl⟩ := h
        refine Sq.do hgd (fun Γ M Ow a w hr => ?_) k
        obtain ⟨q1, hq1⟩ := opV_ok hx hr
        obtain ⟨q2, hq2⟩ := opV_ok hy hr
        refine ⟨_, w, ?_, M, Ow, hr.put (Nat.lt_of_succ_le (Nat.le_of_ble_eq_true hlt)) (.tr _ _ (.sc _ rfl))⟩
        simp [execOp, (sc_eval (Γ := Γ) hq1).1, (sc_eval (Γ := Γ) hq2).1, eqGuard, binOp, Op.intDiv, hb]
      · rename_i hk
        obtain rfl := of_decide_eq_true hk
        simp only [Option.some.injEq, Prod.mk.injEq] at h
        obtain ⟨rfl, rfl, rfl, rfl, rfl⟩ := h
        refine Sq.do hgd (fun Γ M Ow a w hr => ?_) k
        obtain ⟨q1, hq1⟩ := opV_ok hx hr
        obtain ⟨q2, hq2⟩ := opV_ok hy hr
        refine ⟨_, w, ?_, M, Ow, hr.put (Nat.lt_of_succ_le (Nat.le_of_ble_eq_true hlt)) (.tr _ _ (.sc _ rfl))⟩
        simp [execOp, (sc_eval (Γ := Γ) hq1).1, (sc_eval (Γ := Γ) hq2).1, eqGuard, binOp, Op.intDiv, hb]
      · cases h
    · cases h
  · cases h
end
end Go.Lg

set_option linter.unusedVariables false
set_option linter.unusedSimpArgs false
namespace Go.Lg
open Go Go.RowKit
section
variable {P : Program} {G : Env} {n : Nat} {tab : Tab} {m : Store}
end
end Go.Lg

set_option linter.unusedVariables false
set_option linter.unusedSimpArgs false
namespace Go.Lg
open Go Go.RowKit
section
variable {P : Program} {G : Env} {n : Nat} {tab : Tab} {m : Store}
abbrev u64T (x : BitVec 64) : T := .sc (.int .u64 (x.toNat : Int))
abbrev u64 (x : BitVec 64) : AV := .tr (u64T x)
theorem DSq.blk {ops l : List Oper} {o : Oper} {rs : List (Loc × AV)} {κ : Loc} {v : AV} {m' : Store} {fs : List Fp} (hr : rdO m ops o = some rs)
    (hsq : ∀ (q : Store) (K : Store → Prop), K ((κ, v) :: (rs ++ q)) → Sq P G n ops [o] (rs ++ q) K) (k : DSq P G n ops l ((κ, v) :: m) fs m') : DSq P G n ops (o :: l) m (⟨[], rs, [(κ, v)]⟩ :: fs) m' :=
  .cons o l m ⟨[], rs, [(κ, v)]⟩ fs m' ⟨rfl, fun q _ => GStp.of fun K hK => hsq q K hK⟩ (rdO_sat hr) rfl k
end
end Go.Lg

set_option linter.unusedVariables false
set_option linter.unusedSimpArgs false
namespace Go.Lg
open Go Go.RowKit
section
variable {P : Program} {G : Env} {n : Nat} {tab : Tab} {m : Store}
end
end Go.Lg

set_option linter.unusedVariables false
set_option linter.unusedSimpArgs false
namespace Go.Lg
open Go Go.RowKit
section
variable {P : Program} {b : Frame} {a : Act} {k : List Item} {cs : List Frame} {w : World} {Q : Exit → Act → World → Prop} {F : Fence} {n : Nat}
end
section
variable {P : Program} {G : Env} {n : Nat} {m : Store}
end
end Go.Lg

set_option linter.unusedVariables false
set_option linter.unusedSimpArgs false
namespace Go.Lg
open Go Go.RowKit
section
variable {P : Program} {G : Env} {n : Nat} {tab : Tab} {m : Store}
theorem putraw_new {Γ : Ctx} {M : Nat → Nat → Prop} {Ow : Loc → Nat → Option Nat} {a : Act} {w w' : World} (hr : Rel P Γ M Ow n m a w) {d : Nat} (hd : d < n) {e : TypeId} {z : Bool} {i : TypeInfo} (hi : P.info? e = some i) {xs : List T} {carr : Array Value} {cap : Nat}
    (hbel : Below w.heap.size w w') (hnew : w'.heap[w.heap.size]? = some (.cells carr e (0, 0))) (hsz : carr.size = cap * i.size) (hcap : xs.length ≤ cap) (hx : ∀ x, x ∈ xs → x.cells.length = i.size)
    (h1 : ∀ (k : Nat) (u : Value), carr[k]? = some u → u.oneCell' = true)
    (hrep : ∀ (k j : Nat) (x y : T), xs[k]? = some x → x.cells[j]? = some y → ∃ v, carr[k * i.size + j]? = some v ∧ Rep w M y v) :
    RelX P Γ n ((.s d, .raw e z xs) :: m) (a.put (some d) (.slice (some ⟨w.heap.size, 0, none⟩) xs.length cap)) w' := by
  have hlt : w.heap.size < w'.heap.size := (Array.getElem?_eq_some_iff.1 hnew).1
  have hr2 := hr.ext (w' := w') (M' := M) hbel (fun _ _ h => h) (fun b o h => .inl h) (fun b o h => Nat.lt_of_lt_of_le (hr.mlt b o h) hbel.size)
  refine ⟨_, _, hr2.putv hd (x := .raw e z xs) (o := some w.heap.size) ⟨i, hi, hx, .inr ⟨w.heap.size, 0, cap, carr, rfl, rfl, fun _ => rfl, hnew, by omega, fun _ => hsz, hcap, fun k hk => absurd (hr.mlt _ _ hk) (Nat.lt_irrefl _), h1, fun k j x y hkx hjy => ?_⟩⟩ (own_refs rfl) (fun b hb => ?_)⟩
  · obtain ⟨v, hv, hrv⟩ := hrep k j x y hkx hjy
    exact ⟨v, by rw [Nat.zero_add]; exact hv, hrv.mono (fun b o h => ⟨h, hbel.cell (p := ⟨b, o, none⟩) (hr.mlt b o h)⟩)⟩
  · obtain rfl := Option.some.inj hb
    exact ⟨fun l i e => absurd (hr.lt l i _ e) (Nat.lt_irrefl _), hlt, .inr hr.fr.size⟩
theorem Rel.forget {Γ : Ctx} {M : Nat → Nat → Prop} {Ow : Loc → Nat → Option Nat} {a : Act} {w : World} (hr : Rel P Γ M Ow n m a w) (s : Nat) : Rel P Γ M (setO Ow (.s s) 0 none) n ((.s s, .unk) :: m) a w :=
  (hr.label (t := s) (v' := .unk) (VRel.unk _)).setOw (l := .s s) (i := 0) rfl none (fun b hb => by cases hb) (fun t v e hv => by
    obtain rfl : s = t := by injection e
    rw [lk_self] at hv; obtain rfl := Option.some.inj hv; exact VRel.unk _) (fun _ _ _ _ _ _ _ e => by cases e)
theorem Rel.forget_free {Γ : Ctx} {M : Nat → Nat → Prop} {Ow : Loc → Nat → Option Nat} {a : Act} {w : World} (hr : Rel P Γ M Ow n m a w) {s b : Nat} (hb : Ow (.s s) 0 = some b) :
    (∀ l i, setO Ow (.s s) 0 none l i ≠ some b) ∧ b < w.heap.size ∧ (Γ.own0 b ∨ Γ.w0.heap.size ≤ b) := by
  refine ⟨fun l i e' => ?_, hr.lt _ _ _ hb, hr.mineL (fun j e => by cases e) hb⟩
  by_cases e2 : l = .s s ∧ i = 0
  · obtain ⟨rfl, rfl⟩ := e2; rw [setO_self] at e'; cases e'
  · rw [setO_ne _ e2] at e'; exact e2 (hr.inj _ _ _ _ _ e' hb)
theorem appendR_run {Γ : Ctx} {M : Nat → Nat → Prop} {Ow : Loc → Nat → Option Nat} {a : Act} {w : World} (hT : TabOk P tab) (hr : Rel P Γ M Ow n m a w) {t e : TypeId} {dt de : TD} (ht : tlk tab t = some dt) (hk : dt.kind = .slice e) (he : tlk tab e = some de) (hpos : 0 < de.size) (hzl : de.zero.length = de.size)
    {s d : Nat} (hd : d < n) {z : Bool} {xs ys : List T} {bv sv : Value} {ty : TypeId} (hb : (∃ o, RawRel P w M e z xs bv o ∧ ∀ b, o = some b → Ow (.s s) 0 = some b)) (hs : Rep w M (.ls ys) sv)
    (hys : ∀ y, y ∈ ys → y.cells.length = de.size) (hbytes : (xs.length + ys.length) * de.bytes ≤ 140737488355328) (hlen : xs.length + ys.length ≤ 140737488355328) :
    ∃ v w', (Builtin.append_ #[t, t] ty #[bv, sv]).run P w = .ok v w' ∧ RelX P Γ n ((.s d, .raw e z (xs ++ ys)) :: (.s s, .unk) :: m) (a.put (some d) v) w' := by
  obtain ⟨i, hi, hisz, hiby, _, ho, zv, hz, hzs⟩ := hT.info he
  have hu : P.underlying t = some (.slice e) := hT.slice ht hk
  obtain ⟨o, ⟨i', hi', hxs, hown⟩, hos⟩ := hb
  obtain rfl : i' = i := by rw [hi] at hi'; exact (Option.some.inj hi').symm
  have hes : ∀ x, x ∈ xs ++ ys → x.cells.length = i'.size := by
    intro x hx
    rcases List.mem_append.1 hx with h | h
    · exact hxs x h
    · rw [hisz]; exact hys x h
  have hr2 := hr.forget s
  by_cases hy0 : ys = []
  · subst hy0
    obtain ⟨ad, cap, rfl, _⟩ := hs.ls_inv
    have hrun : (Builtin.append_ #[t, t] ty #[bv, .slice ad 0 cap]).run P w = .ok bv w := by
      have hf : (Builtin.firstCells i'.size 0 (.slice ad 0 cap)).run P w = .ok #[] w := by
        cases ad with
        | none => exact run_firstCells_none w _ _ _ _
        | some a0 => exact run_firstCells_some (P := P) w i'.size 0 a0 0 cap [] (by simp) (by simp)
      rcases hown with ⟨rfl, ad0, rfl⟩ | ⟨b, off, c, cs, rfl, rfl, hz0, hh, hcs, hzcs, hc, hn, hone, hrep⟩
      · cases ad0 <;> simp [Builtin.append_, run_underlying hu, sizeOf, typeInfo, hi, Builtin.lenOf, hf, storeCells]
      · simp [Builtin.append_, run_underlying hu, sizeOf, typeInfo, hi, Builtin.lenOf, hf, hc, storeCells]
    refine ⟨bv, w, hrun, ?_⟩
    rw [List.append_nil]
    exact ⟨_, _, hr2.putv hd (x := .raw e z xs) (o := o) ⟨i', hi, hxs, hown⟩ (own_refs rfl) (fun b hb => hr.forget_free (hos b hb))⟩
  · obtain ⟨b2, off2, cap2, news, rfl, hnl, hncell, hn1, hnM, hnrep⟩ := hs.flat (es := i'.size) (fun y hy => by rw [hisz]; exact hys y hy) (by rw [hisz]; exact hpos) hy0
    have hm0 : 0 < ys.length := List.length_pos_iff.2 hy0
    have hlaidN : Laid w M i'.size ys news := ⟨hnl, hnrep⟩
    have newblk : ∀ (olds : List Value) (cap' : Nat), Laid w M i'.size xs olds → (∀ u, u ∈ olds → u.oneCell' = true) → xs.length + ys.length ≤ cap' →
        RelX P Γ n ((.s d, .raw e z (xs ++ ys)) :: (.s s, .unk) :: m) (a.put (some d) (.slice (some ⟨w.heap.size, 0, none⟩) (xs.length + ys.length) cap'))
          (w.drew.alloc (.cells (olds.toArray ++ news.toArray ++ Builtin.zeroCells zv.cells (cap' - (xs.length + ys.length))) e)) := by
      intro olds cap' hlaid ho1 hcap'
      have hbel : Below w.heap.size w (w.drew.alloc (.cells (olds.toArray ++ news.toArray ++ Builtin.zeroCells zv.cells (cap' - (xs.length + ys.length))) e)) := (Below.refl _ w).drew.alloc (Nat.le_refl _) _
      have hzsz : zv.cells.size = i'.size := by
        obtain ⟨z1, _⟩ := zsOk_all hzs ho
        rw [hisz, ← hzl, z1]; simp
      have := putraw_new (z := z) (xs := xs ++ ys) (cap := cap') hr2 hd hi hbel (alloc_at w.drew _) (by
        simp only [Array.size_append, List.size_toArray, size_zeroCells, hzsz, hlaid.1, hnl, ← Nat.add_mul]
        congr 1; omega) (by simpa using hcap') hes (by
        intro k u hu
        rw [Array.getElem?_append] at hu
        split at hu
        · have e1 : olds.toArray ++ news.toArray = (olds ++ news).toArray := by simp
          rw [e1, List.getElem?_toArray] at hu
          rcases List.mem_append.1 (List.mem_of_getElem? hu) with h | h
          · exact ho1 u h
          · exact hn1 u h
        · exact zero_one hzs ho (by rw [hzl]; exact hpos) _ _ u hu) (by
        intro k j x y hx hy
        obtain ⟨u, hu, hru⟩ := (hlaid.append hlaidN hxs).more (us := (Builtin.zeroCells zv.cells (cap' - (xs.length + ys.length))).toList) k j x y hx hy
        refine ⟨u, ?_, hru⟩
        have e1 : (olds.toArray ++ news.toArray ++ Builtin.zeroCells zv.cells (cap' - (xs.length + ys.length))) = (olds ++ news ++ (Builtin.zeroCells zv.cells (cap' - (xs.length + ys.length))).toList).toArray := by
          simp
        rw [e1, List.getElem?_toArray]; exact hu)
      rw [List.length_append] at this
      exact this
    rcases hown with ⟨rfl, ad0, rfl⟩ | ⟨b, off, c, cs, rfl, rfl, hz0, hh, hcs, hzcs, hc, hn, hone, hrep⟩
    · cases ad0 with
      | none =>
        have hrun := run_append_nil (P := P) w t ty e i' zv hu hi hz ⟨b2, off2, none⟩ ys.length cap2 news hnl hncell hm0 (by simp at hlen; omega) (by rw [hiby]; simp at hbytes; omega)
        refine ⟨_, _, hrun, ?_⟩
        have := newblk [] (grownCap w ys.length 0 e) ⟨by simp, by simp⟩ (by simp) (by simpa using grownCap_ge w ys.length 0 e)
        simpa using this
      | some a0 =>
        have hrun := run_append_grow (P := P) w t ty e i' zv hu hi hz a0 0 0 [] (by simp) (by simp) ⟨b2, off2, none⟩ ys.length cap2 news hnl hncell (by omega) (by simp at hlen; omega) (growslice_fits (by omega) (by rw [hiby]; exact hbytes))
        refine ⟨_, _, hrun, ?_⟩
        exact newblk [] _ ⟨by simp, by simp⟩ (by simp) (grownCap_ge w _ 0 e)
    · have hOw := hos b rfl
      have hcm : xs.length * i'.size ≤ c * i'.size := Nat.mul_le_mul_right _ hc
      by_cases hroom : xs.length + ys.length ≤ c
      · have hcm2 : (xs.length + ys.length) * i'.size ≤ c * i'.size := Nat.mul_le_mul_right _ hroom
        rw [Nat.add_mul] at hcm2
        have hfit : off + xs.length * i'.size + news.length ≤ cs.size := by rw [hnl]; omega
        have hrun := run_append_room_off (P := P) w t ty e i' hu hi b off xs.length c cs hh ⟨b2, off2, none⟩ ys.length cap2 news hnl hncell hn1 hroom hfit
        refine ⟨_, _, hrun, ?_⟩
        have hat : ∀ k, (cs.toList.take (off + xs.length * i'.size) ++ news ++ cs.toList.drop (off + xs.length * i'.size + news.length)).toArray[k]? = if k < off + xs.length * i'.size then cs[k]? else if k < off + xs.length * i'.size + news.length then news[k - (off + xs.length * i'.size)]? else cs[k]? := by
          intro k
          rw [List.getElem?_toArray, splice_at (by simpa using hfit), Array.getElem?_toList]
        have hsz' : (cs.toList.take (off + xs.length * i'.size) ++ news ++ cs.toList.drop (off + xs.length * i'.size + news.length)).toArray.size = cs.size := by simp; omega
        have hr3 := (hr.label (t := s) (v' := .unk) (VRel.unk _)).growown (s := s) (lo := 0) (hi := 0) hOw (by rw [lk_self]) (fun k hk => absurd hk (hn k)) hh (setRow_heap w b cs _ e (0, 0) hh) hsz' (fun k hk => by omega) rfl rfl rfl (setRow_size ..) (fun c' hc' => setRow_other w b c' _ hc')
        have hr4 := hr3.forget s
        have hm' : ∀ b' k, M b' k → (M b' k ∨ (b' = b ∧ 0 ≤ k ∧ k < 0)) ∧
            (w.setRow b (cs.toList.take (off + xs.length * i'.size) ++ news ++ cs.toList.drop (off + xs.length * i'.size + news.length)).toArray).cell? ⟨b', k, none⟩ = w.cell? ⟨b', k, none⟩ := by
          intro b' k hM
          refine ⟨.inl hM, ?_⟩
          by_cases eb : b' = b
          · subst eb; exact absurd hM (hn k)
          · exact cell_setRow_other w b _ ⟨b', k, none⟩ eb
        have hr5 := hr4.putv hd (x := .raw e z (xs ++ ys)) (o := some b) (cv := .slice (some ⟨b, off, none⟩) (xs.length + ys.length) c)
          ⟨i', hi, hes, .inr ⟨b, off, c, _, rfl, by rw [List.length_append], hz0, setRow_heap w b cs _ e (0, 0) hh, by rw [hsz']; exact hcs, fun h => by rw [hsz']; exact hzcs h, by rw [List.length_append]; exact hroom, fun k hk => by
            rcases hk with h | ⟨_, _, h⟩
            · exact hn k h
            · omega, fun k u hu => by
            rw [hat] at hu
            split at hu
            · exact hone k u hu
            · split at hu
              · exact hn1 u (List.mem_of_getElem? hu)
              · exact hone k u hu, fun k j x y hx hy => by
            have hj : j < i'.size := by
              rw [← hes x (List.mem_of_getElem? hx)]
              rcases Nat.lt_or_ge j x.cells.length with h | h
              · exact h
              · rw [List.getElem?_eq_none h] at hy; cases hy
            rcases Nat.lt_or_ge k xs.length with hk | hk
            · rw [List.getElem?_append_left hk] at hx
              obtain ⟨u, hu, hru⟩ := hrep k j x y hx hy
              refine ⟨u, ?_, hru.mono hm'⟩
              have : (k + 1) * i'.size ≤ xs.length * i'.size := Nat.mul_le_mul_right _ hk
              rw [Nat.succ_mul] at this
              rw [hat, if_pos (by omega)]; exact hu
            · rw [List.getElem?_append_right hk] at hx
              obtain ⟨u, hu, hru⟩ := hnrep (k - xs.length) j x y hx hy
              refine ⟨u, ?_, hru.mono hm'⟩
              have e1 : k * i'.size = xs.length * i'.size + (k - xs.length) * i'.size := by rw [← Nat.add_mul]; congr 1; omega
              have hlt : (k - xs.length) * i'.size + j < news.length := by
                rcases Nat.lt_or_ge ((k - xs.length) * i'.size + j) news.length with h | h
                · exact h
                · rw [List.getElem?_eq_none h] at hu; cases hu
              rw [hat, if_neg (by omega), if_pos (by omega), e1]
              rw [show off + (xs.length * i'.size + (k - xs.length) * i'.size) + j - (off + xs.length * i'.size) = (k - xs.length) * i'.size + j by omega]; exact hu⟩⟩ (own_refs rfl) (fun c' hc' => by
            obtain rfl := Option.some.inj hc'
            exact hr3.forget_free hOw)
        refine ⟨_, _, hr5.sub fun l v hl => ?_⟩
        rw [lk_cons] at hl ⊢
        split
        · rename_i e; rw [if_pos e] at hl; exact hl
        · rename_i e
          rw [if_neg e] at hl
          rw [lk_cons] at hl ⊢
          split
          · rename_i e2; rw [if_pos e2] at hl; exact hl
          · rename_i e2; rw [if_neg e2] at hl; rw [lk_ne _ _ e2]; exact hl
      · have hol : ((cs.toList.drop off).take (xs.length * i'.size)).length = xs.length * i'.size := by
          have hcl : cs.toList.length = cs.size := Array.length_toList
          rw [List.length_take, List.length_drop, hcl]; omega
        have hoat : ∀ j, j < xs.length * i'.size → ((cs.toList.drop off).take (xs.length * i'.size))[j]? = cs[off + j]? := by
          intro j hj
          rw [List.getElem?_take, if_pos hj, List.getElem?_drop, Array.getElem?_toList]
        have hrun := run_append_grow (P := P) w t ty e i' zv hu hi hz ⟨b, off, none⟩ xs.length c ((cs.toList.drop off).take (xs.length * i'.size)) hol (by
          intro j u hu
          have hj : j < xs.length * i'.size := by
            rcases Nat.lt_or_ge j (xs.length * i'.size) with h | h
            · exact h
            · rw [List.getElem?_eq_none (by rw [hol]; exact h)] at hu; cases hu
          rw [hoat j hj] at hu
          rw [add_lit]; simpa [World.cell?, hh] using hu) ⟨b2, off2, none⟩ ys.length cap2 news hnl hncell (by omega) (by omega) (growslice_fits (by omega) (by rw [hiby]; exact hbytes))
        refine ⟨_, _, hrun, ?_⟩
        refine newblk _ _ ⟨hol, fun k j x y hx hy => ?_⟩ (fun u hu => ?_) (grownCap_ge w _ c e)
        · obtain ⟨u, hu, hru⟩ := hrep k j x y hx hy
          refine ⟨u, ?_, hru⟩
          have hj : j < i'.size := by
            rw [← hxs x (List.mem_of_getElem? hx)]
            rcases Nat.lt_or_ge j x.cells.length with h | h
            · exact h
            · rw [List.getElem?_eq_none h] at hy; cases hy
          have hk : k < xs.length := by
            rcases Nat.lt_or_ge k xs.length with h | h
            · exact h
            · rw [List.getElem?_eq_none h] at hx; cases hx
          have : (k + 1) * i'.size ≤ xs.length * i'.size := Nat.mul_le_mul_right _ hk
          rw [Nat.succ_mul] at this
          rw [hoat _ (by omega), ← Nat.add_assoc]; exact hu
        · obtain ⟨j, hj⟩ := List.mem_iff_getElem?.1 hu
          have hj' : j < xs.length * i'.size := by
            rcases Nat.lt_or_ge j (xs.length * i'.size) with h | h
            · exact h
            · rw [List.getElem?_eq_none (by rw [hol]; exact h)] at hj; cases hj
          rw [hoat j hj'] at hj
          exact hone _ u hj
end
end Go.Lg

set_option linter.unusedVariables false
set_option linter.unusedSimpArgs false
namespace Go.Lg
open Go Go.RowKit
section
variable {P : Program} {G : Env} {n : Nat} {tab : Tab} {m : Store}
def evLit0 (tab : Tab) (n : Nat) (ops : List Oper) (o : Oper) (m : Store) : Option (TypeId × Nat) := match o.op, o.dst, gOk m ops o.guard with
  | .buildSlice t 0 ⟨[]⟩, some d, true => match Nat.blt d n, tlk tab t with
    | true, some ⟨_, _, .slice e, _⟩ => match tlk tab e with
      | some _ => some (e, d)
      | none => none
    | _, _ => none
  | _, _, _ => none
theorem Sq.lit0R {ops l : List Oper} {o : Oper} {e : TypeId} {d : Nat} {K : Store → Prop} (hT : TabOk P tab) (h : evLit0 tab n ops o m = some (e, d)) (k : Sq P G n ops l ((.s d, .raw e true []) :: m) K) : Sq P G n ops (o :: l) m K := by
  obtain ⟨dst, op, type, pos, after, guard⟩ := o
  unfold evLit0 at h
  simp only at h
  split at h
  · rename_i t d' hgd
    split at h
    · rename_i e' _ hlt ht
      split at h
      · rename_i de he
        simp only [Option.some.injEq, Prod.mk.injEq] at h
        obtain ⟨rfl, rfl⟩ := h
        refine Sq.do hgd (fun Γ M Ow a w hr => ?_) k
        obtain ⟨ie, hie, hsz, _⟩ := hT.info he
        have hu := hT.slice ht rfl
        refine ⟨.slice (some ⟨w.heap.size, 0, none⟩) 0 0, w.alloc (.cells #[] e'), ?_, ?_⟩
        · have := run_buildSlice0 (P := P) (w := w) (parts := #[]) hu hie rfl
          have e0 : Array.map (fun (x : Nat × Operand) => (x.1, a.eval x.2)) ⟨[]⟩ = #[] := by simp
          simp only [execOp]
          rw [Sem.run_bind, e0, this]
          rfl
        · have := putraw_new (z := true) (cap := 0) (xs := []) hr (Nat.lt_of_succ_le (Nat.le_of_ble_eq_true hlt)) hie (below_alloc w (.cells #[] e')) (alloc_at w _) (by simp) (by simp) (by simp) (by simp) (by simp)
          simpa using this
      · cases h
    · cases h
  · cases h
def evAppR (tab : Tab) (n : Nat) (ops : List Oper) (o : Oper) (m : Store) : Option (TypeId × Nat × Nat × Bool × List T × List T × Nat) := match o.op, o.dst, gOk m ops o.guard with
  | .call ⟨.builtin .append, ⟨[x, y]⟩, ⟨[t, t']⟩⟩, some d, true => match Nat.blt d n, Nat.beq t t', tlk tab t with
    | true, true, some ⟨_, _, .slice e, _⟩ => match tlk tab e, opV m y with
      | some ⟨es, by', _, zs⟩, some yv => match Nat.beq zs.length es, Nat.ble 1 es, Nat.ble by' 131072, Nat.ble 1 by', lsOf yv with
        | true, true, true, true, some ys => match x with
          | .tmp s => match lk m (.s s) with
            | some (.raw e' z xs) => match Nat.beq e' e with
              | true => some (e, es, s, z, xs, ys, d)
              | false => none
            | _ => none
          | .const (.slice none 0 0) => some (e, es, d, true, [], ys, d)
          | _ => none
        | _, _, _, _, _ => none
      | _, _ => none
    | _, _, _ => none
  | _, _, _ => none
theorem Sq.appendR {ops l : List Oper} {o : Oper} {e es s d : Nat} {z : Bool} {xs ys : List T} {K : Store → Prop} (hT : TabOk P tab) (h : evAppR tab n ops o m = some (e, es, s, z, xs, ys, d)) (hys : ∀ y, y ∈ ys → y.cells.length = es) (hlen : xs.length + ys.length ≤ 1073741824)
    (k : Sq P G n ops l ((.s d, .raw e z (xs ++ ys)) :: (.s s, .unk) :: m) K) : Sq P G n ops (o :: l) m K := by
  obtain ⟨dst, op, type, pos, after, guard⟩ := o
  unfold evAppR at h
  simp only at h
  split at h
  · rename_i x y t t' d' hgd
    split at h
    · rename_i e0 _ hlt htt ht
      split at h
      · rename_i es' by' kd zs yv he hyv
        split at h
        · rename_i ys' hz1 hz2 hz3 hz4 hls
          obtain rfl : t = t' := Nat.eq_of_beq_eq_true htt
          have hd : d' < n := Nat.lt_of_succ_le (Nat.le_of_ble_eq_true hlt)
          have hzl : zs.length = es' := Nat.eq_of_beq_eq_true hz1
          have hpos : 0 < es' := Nat.le_of_ble_eq_true hz2
          have hby : by' ≤ 131072 := Nat.le_of_ble_eq_true hz3
          have fin : ∀ {s0 : Nat} {z0 : Bool} {xs0 : List T}, (e0, es', s0, z0, xs0, ys', d') = (e, es, s, z, xs, ys, d) → (∀ (a : Act), ((lk m (.s s0) = some (.raw e0 z0 xs0) ∧ a.eval x = a.tmps.getD s0 undef) ∨ (xs0 = [] ∧ a.eval x = .slice none 0 0))) → Sq P G n ops (⟨some d', .call ⟨.builtin .append, ⟨[x, y]⟩, ⟨[t, t]⟩⟩, type, pos, after, guard⟩ :: l) m K := by
            intro s0 z0 xs0 heq hb
            simp only [Prod.mk.injEq] at heq
            obtain ⟨rfl, rfl, rfl, rfl, rfl, rfl, rfl⟩ := heq
            refine Sq.do hgd (fun Γ M Ow a w hr => ?_) k
            obtain ⟨q, hq⟩ := opV_ok hyv hr
            have hq := deg_vrel hq
            rw [lsOf_eq hls] at hq
            have hrep : Rep w M (.ls ys') (a.eval y) := by cases hq with | tr _ _ h => exact h
            have hb' : (xs0.length + ys'.length) * by' ≤ 140737488355328 := by
              have := Nat.mul_le_mul hlen hby
              omega
            obtain ⟨ie, hie, _⟩ := hT.info he
            have hbase : ∃ o, RawRel P w M e0 z0 xs0 (a.eval x) o ∧ ∀ b, o = some b → Ow (.s s0) 0 = some b := by
              rcases hb a with ⟨h1, h2⟩ | ⟨rfl, h2⟩
              · rw [h2]; exact ⟨_, hr.slot s0 _ h1, fun b hb => hb⟩
              · rw [h2]; exact ⟨none, ⟨ie, hie, (fun x hx => nomatch hx), .inl ⟨rfl, none, rfl⟩⟩, fun b hb => nomatch hb⟩
            obtain ⟨v, w', h1, h2⟩ := appendR_run hT hr (dt := _) (de := ⟨es', by', kd, zs⟩) ht rfl he hpos hzl hd (ty := type) hbase hrep hys hb' (by omega)
            refine ⟨v, w', ?_, h2⟩
            simp [execOp, resolve, invoke, builtin, h1]
          split at h
          · rename_i s0
            split at h
            · rename_i e' z0 xs0 hs0
              split at h
              · rename_i hee
                obtain rfl : e' = e0 := Nat.eq_of_beq_eq_true hee
                exact fin (Option.some.inj h) (fun a => .inl ⟨hs0, rfl⟩)
              · cases h
            · cases h
          · exact fin (Option.some.inj h) (fun a => .inr ⟨rfl, rfl⟩)
          · cases h
        · cases h
      · cases h
    · cases h
  · cases h
theorem RawRel.part {w : World} {M : Nat → Nat → Prop} {e : TypeId} {z : Bool} {xs : List T} {ad : Option Addr} {q cap : Nat} {o : Option Nat} (h : RawRel P w M e z xs (.slice ad q cap) o) {ie : TypeInfo} (hie : P.info? e = some ie) {l hi : Nat} (hl : l ≤ hi) (hhi : hi ≤ xs.length) :
    RawRel P w M e (z && l == 0) ((xs.drop l).take (hi - l)) (.slice (if cap = l then ad else ad.map (·.add (l * ie.size))) (hi - l) (cap - l)) o := by
  obtain ⟨i, hi1, hx, h⟩ := h
  obtain rfl : i = ie := by rw [hie] at hi1; exact (Option.some.inj hi1).symm
  refine ⟨i, hie, fun x hm => hx x (List.mem_of_mem_drop (List.mem_of_mem_take hm)), ?_⟩
  rcases h with ⟨rfl, ad0, e1⟩ | ⟨b, off, c, cs, rfl, e1, hz, hh, hs, hzs, hc, hn, h1, hr⟩
  · injection e1 with e1 e2 e3
    subst e1; subst e2; subst e3
    simp at hhi; subst hhi
    obtain rfl : l = 0 := by omega
    exact .inl ⟨by simp, ad, by simp⟩
  · injection e1 with e1 e2 e3
    subst e1; subst e3
    have hlen : ((xs.drop l).take (hi - l)).length = hi - l := by simp; omega
    by_cases ec : cap = l
    · rw [if_pos ec]
      have : hi - l = 0 := by omega
      exact .inl ⟨List.eq_nil_of_length_eq_zero (by omega), some ⟨b, off, none⟩, by rw [this]; congr 1; omega⟩
    · rw [if_neg ec]
      have e2 : l * i.size + (cap - l) * i.size = cap * i.size := by rw [← Nat.add_mul]; congr 1; omega
      refine .inr ⟨b, off + l * i.size, cap - l, cs, rfl, ?_, ?_, hh, by omega, ?_, by omega, hn, h1, ?_⟩
      · rw [hlen]; simp only [Option.map_some, add_lit]
      · intro h
        rw [Bool.and_eq_true, beq_iff_eq] at h
        rw [h.2, hz h.1]; simp
      · intro h
        rw [Bool.and_eq_true, beq_iff_eq] at h
        rw [h.2]; exact hzs h.1
      · intro i' j x y hx hy
        rw [List.getElem?_take] at hx
        split at hx
        · rw [List.getElem?_drop] at hx
          obtain ⟨u, hu, hru⟩ := hr (l + i') j x y hx hy
          refine ⟨u, ?_, hru⟩
          rw [Nat.add_mul] at hu
          rw [show off + l * i.size + i' * i.size + j = off + (l * i.size + i' * i.size) + j by omega]; exact hu
        · cases hx
theorem OwnRel.tail {w : World} {M : Nat → Nat → Prop} {e : TypeId} {xs : List T} {ad : Option Addr} {q cap : Nat} {o : Option Nat} (h : OwnRel P w M e xs (.slice ad q cap) o) {ie : TypeInfo} (hie : P.info? e = some ie) {l : Nat} (hl : l ≤ xs.length) :
    OwnRel P w M e (xs.drop l) (.slice (if cap = l then ad else ad.map (·.add (l * ie.size))) (xs.length - l) (cap - l)) o := by
  obtain ⟨i, hi1, hx, h⟩ := h
  obtain rfl : i = ie := by rw [hie] at hi1; exact (Option.some.inj hi1).symm
  refine ⟨i, hie, fun x hm => hx x (List.mem_of_mem_drop hm), ?_⟩
  rcases h with ⟨rfl, ad0, e1⟩ | ⟨b, off, c, cs, rfl, e1, hrep, hh, hs, hc, hn, h1⟩
  · injection e1 with e1 e2 e3
    subst e1; subst e2; subst e3
    simp at hl; subst hl
    exact .inl ⟨by simp, ad, by simp⟩
  · injection e1 with e1 e2 e3
    subst e1; subst e3; subst e2
    have hpart := hrep.part (es := i.size) (l := l) (hi := xs.length) hx hl (Nat.le_refl _)
    rw [show (xs.drop l).take (xs.length - l) = xs.drop l by rw [List.take_of_length_le (by simp)]] at hpart
    by_cases ec : cap = l
    · rw [if_pos ec]
      have : xs.length - l = 0 := by omega
      exact .inl ⟨List.eq_nil_of_length_eq_zero (by simp; omega), some ⟨b, off, none⟩, by rw [this]; congr 1; omega⟩
    · rw [if_neg ec] at hpart ⊢
      have e2 : l * i.size + (cap - l) * i.size = cap * i.size := by rw [← Nat.add_mul]; congr 1; omega
      have e3 : l * i.size + (xs.length - l) * i.size = xs.length * i.size := by rw [← Nat.add_mul]; congr 1; omega
      simp only [Option.map_some, add_lit] at hpart ⊢
      refine .inr ⟨b, off + l * i.size, cap - l, cs, rfl, by rw [List.length_drop], hpart, hh, by omega, by rw [List.length_drop]; omega, fun k hk => ?_, h1⟩
      rw [List.length_drop] at hk
      exact hn k (by omega)
def evTake (n : Nat) (ops : List Oper) (o : Oper) (m : Store) : Option (Nat × AV × Nat) := match o.op, o.dst, gOk m ops o.guard with
  | .move (.tmp s), some d, true => match Nat.blt d n, lk m (.s s) with
    | true, some x => match x.isOwn with
      | true => some (s, x, d)
      | false => none
    | _, _ => none
  | _, _, _ => none
theorem Sq.take {ops l : List Oper} {o : Oper} {s d : Nat} {x : AV} {K : Store → Prop} (h : evTake n ops o m = some (s, x, d)) (k : Sq P G n ops l ((.s d, x) :: (.s s, x.deg) :: m) K) : Sq P G n ops (o :: l) m K := by
  obtain ⟨dst, op, type, pos, after, guard⟩ := o
  unfold evTake at h
  simp only at h
  split at h
  · rename_i s0 d' hgd
    split at h
    · rename_i x0 hlt hx
      split at h
      · rename_i hown
        simp only [Option.some.injEq, Prod.mk.injEq] at h
        obtain ⟨rfl, rfl, rfl⟩ := h
        refine Sq.do hgd (fun Γ M Ow a w hr => ?_) k
        obtain ⟨Ow', h'⟩ := hr.take (Nat.lt_of_succ_le (Nat.le_of_ble_eq_true hlt)) hown hx
        exact ⟨a.eval (.tmp s0), w, rfl, M, Ow', h'⟩
      · cases h
    · cases h
  · cases h
end
end Go.Lg

set_option linter.unusedVariables false
set_option linter.unusedSimpArgs false
namespace Go.Lg
open Go Go.RowKit
section
variable {P : Program} {G : Env} {n : Nat} {tab : Tab} {m : Store}
def evExt (n : Nat) (ops : List Oper) (o : Oper) (m : Store) : Option (FuncId × Value × Nat) := match o.op, o.dst, gOk m ops o.guard with
  | .call ⟨.value (.func f), ⟨[x]⟩, _⟩, some d, true => match Nat.blt d n, opV m x with
    | true, some (.tr (.sc c)) => some (f, c, d)
    | _, _ => none
  | _, _, _ => none
theorem Sq.ext {ops l : List Oper} {o : Oper} {f : FuncId} {fn : Func} {e : Array Value → Sem Value} {c u : Value} {d : Nat} {K : Store → Prop} (h : evExt n ops o m = some (f, c, d)) (hf : P.funcs[f]? = some fn) (hname : (fn.name == "runtime.NumGoroutine") = false) (hb : fn.body.isNone = true)
    (hn : Extern.findNext fn = none) (he : Extern.find fn = some e) (hr : ∀ w, (e #[c]).run P w = .ok u w) (h1 : u.oneCell' = true) (k : Sq P G n ops l ((.s d, .tr (.sc u)) :: m) K) : Sq P G n ops (o :: l) m K := by
  obtain ⟨dst, op', type, pos, after, guard⟩ := o
  unfold evExt at h
  simp only at h
  split at h
  · rename_i f0 ox ats d' hgd
    split at h
    · rename_i c0 hlt hx
      simp only [Option.some.injEq, Prod.mk.injEq] at h
      obtain ⟨rfl, rfl, rfl⟩ := h
      refine Sq.do hgd (fun Γ M Ow a w hrr => ?_) k
      obtain ⟨q1, hq1⟩ := opV_ok hx hrr
      refine ⟨u, w, ?_, M, Ow, hrr.put (Nat.lt_of_succ_le (Nat.le_of_ble_eq_true hlt)) (.tr _ _ (.sc _ h1))⟩
      have hfe : a.eval (.func f0) = .func (.func f0) #[] #[] := rfl
      have hcall : (callFunc f0 #[c0]).run P w = .ok (.value u) w := by rw [run_callFunc_extern hf hname hb hn he, hr]; rfl
      simp [execOp, resolve, Deferred.ofValue, hfe, (sc_eval (Γ := Γ) hq1).1, invoke, hcall]
    · cases h
  · cases h
end
end Go.Lg

set_option linter.unusedVariables false
set_option linter.unusedSimpArgs false
namespace Go.Lg
open Go Go.RowKit
section
variable {P : Program} {G : Env} {n : Nat} {tab : Tab} {m : Store}
theorem flat_at {es : Nat} (hpos : 0 < es) : ∀ {xs : List T}, (∀ x, x ∈ xs → x.cells.length = es) → (xs.flatMap T.cells).length = xs.length * es ∧ ∀ k, (xs.flatMap T.cells)[k]? = (xs[k / es]?).bind fun x => x.cells[k % es]?
  | [], _ => ⟨by simp, fun k => by simp⟩
  | x :: xs, h => by
    obtain ⟨h1, h2⟩ := flat_at hpos (xs := xs) (fun y hy => h y (List.mem_cons_of_mem _ hy))
    have hx := h x (List.mem_cons_self ..)
    refine ⟨by rw [List.flatMap_cons, List.length_append, h1, hx, List.length_cons, Nat.succ_mul]; omega, fun k => ?_⟩
    rw [List.flatMap_cons]
    rcases Nat.lt_or_ge k es with hk | hk
    · rw [List.getElem?_append_left (by omega), Nat.div_eq_of_lt hk, Nat.mod_eq_of_lt hk]; rfl
    · rw [List.getElem?_append_right (by omega), h2, hx]
      have e1 : k / es = (k - es) / es + 1 := by
        rw [show k = (k - es) + es by omega, Nat.add_div_right _ hpos]; simp
      have e2 : k % es = (k - es) % es := by
        rw [show k = (k - es) + es by omega, Nat.add_mod_right]; simp
      rw [e1, e2, List.getElem?_cons_succ]
theorem flat_one : ∀ {xs : List T}, (∀ x, x ∈ xs → x.cells = [x]) → xs.flatMap T.cells = xs
  | [], _ => rfl
  | x :: xs, h => by
    rw [List.flatMap_cons, h x (List.mem_cons_self ..), flat_one (fun y hy => h y (List.mem_cons_of_mem _ hy))]; rfl
theorem RawRel.blk {w : World} {M : Nat → Nat → Prop} {e : TypeId} {xs : List T} {v : Value} {o : Option Nat} (h : RawRel P w M e true xs v o) (hne : xs ≠ []) {ie : TypeInfo} (hie : P.info? e = some ie) (hpos : 0 < ie.size) :
    ∃ b cap cs, o = some b ∧ v = .slice (some ⟨b, 0, none⟩) xs.length cap ∧ xs.length ≤ cap ∧ w.heap[b]? = some (.cells cs e (0, 0)) ∧ cs.size = ((xs.flatMap T.cells).map AV.tr ++ List.replicate ((cap - xs.length) * ie.size) AV.unk).length ∧ (∀ k, ¬ M b k) ∧
      (∀ (k : Nat) (u : Value), cs[k]? = some u → u.oneCell' = true) ∧ ∀ (Ow : Loc → Nat → Option Nat) (k : Nat) (y : AV) (u : Value) (q : Option Nat), ((xs.flatMap T.cells).map AV.tr ++ List.replicate ((cap - xs.length) * ie.size) AV.unk)[k]? = some y → cs[k]? = some u → SRel P w M Ow y u q := by
  obtain ⟨i, hi, hx, h⟩ := h
  obtain rfl : i = ie := by rw [hie] at hi; exact (Option.some.inj hi).symm
  rcases h with ⟨rfl, _⟩ | ⟨b, off, cap, cs, rfl, rfl, hz, hh, hs, hzs, hc, hn, h1, hr⟩
  · exact absurd rfl hne
  · obtain rfl := hz rfl
    have hzs := hzs rfl
    obtain ⟨f1, f2⟩ := flat_at hpos hx
    refine ⟨b, cap, cs, rfl, rfl, hc, hh, ?_, hn, h1, ?_⟩
    · rw [List.length_append, List.length_map, List.length_replicate, f1, ← Nat.add_mul, hzs]; congr 1; omega
    · intro Ow k y u q hy hu
      rcases Nat.lt_or_ge k ((xs.flatMap T.cells).map AV.tr).length with hk | hk
      · rw [List.getElem?_append_left hk, List.getElem?_map] at hy
        obtain ⟨t, ht, rfl⟩ := Option.map_eq_some_iff.1 hy
        rw [f2] at ht
        obtain ⟨x, hx1, hx2⟩ := Option.bind_eq_some_iff.1 ht
        obtain ⟨u', hu', hru⟩ := hr _ _ _ _ hx1 hx2
        have e : 0 + k / i.size * i.size + k % i.size = k := by rw [Nat.zero_add, Nat.mul_comm]; exact Nat.div_add_mod k i.size
        rw [e, hu] at hu'
        obtain rfl := Option.some.inj hu'
        exact VRel.tr _ _ hru
      · rw [List.getElem?_append_right hk] at hy
        have := List.eq_of_mem_replicate (List.mem_of_getElem? hy)
        subst this; exact VRel.unk _
theorem Rel.addblk' {Γ : Ctx} {M : Nat → Nat → Prop} {Ow : Loc → Nat → Option Nat} {a : Act} {w : World} (h : Rel P Γ M Ow n m a w) {κ : Loc} (hk : κ.isBlk = true) (hpn : Γ.pin κ = none) (hr : refsM κ m = false) {b : Nat} {cs : Array Value} {ty : TypeId} {cells : List AV}
    (hb : w.heap[b]? = some (.cells cs ty (0, 0))) (hu : ∀ l i, Ow l i ≠ some b) (hbl : b < w.heap.size) (h0 : Γ.own0 b ∨ Γ.w0.heap.size ≤ b) (hm : ∀ o, ¬ M b o) (hs : cs.size = cells.length)
    (h1 : ∀ (i : Nat) (v : Value), cs[i]? = some v → v.oneCell' = true) (hc : ∀ (i : Nat) (y : AV) (v : Value), cells[i]? = some y → cs[i]? = some v → SRel P w M Ow y v none)
    (hrc : refsL κ cells = false) :
    Rel P Γ M (fun l i => if l = κ then (if i = 0 then some b else none) else Ow l i) n ((κ, .blk ty cells) :: m) a w := by
  have key : ∀ {x : AV} {v : Value} {o : Option Nat}, ¬ Refs κ x → SRel P w M Ow x v o → SRel P w M (fun l i => if l = κ then (if i = 0 then some b else none) else Ow l i) x v o := by
    intro x v o hx hv
    refine hv.mono (fun b o h => ⟨h, rfl⟩) ?_ (fun b hb => ⟨hb, fun cs ty h => h, fun k h => h⟩)
    intro κ' b' _ hr' e
    have : κ' ≠ κ := fun e' => hx (e' ▸ hr')
    simp only [if_neg this]; exact e
  exact {
    size := h.size
    defers := h.defers
    slot := by
      intro t v hv
      have hne : (Loc.s t) ≠ κ := fun e => by rw [← e] at hk; cases hk
      rw [lk_ne _ _ (fun e => hne e.symm)] at hv
      have := key (refsM_lk hr hv) (h.slot t v hv)
      simpa only [if_neg hne] using this
    blk := by
      intro κ' v hk' hv
      rw [lk_cons] at hv
      split at hv
      · rename_i e; subst e
        obtain rfl := Option.some.inj hv
        refine ⟨ty, cells, b, cs, rfl, by simp, hb, hs, hm, h1, ?_⟩
        intro i y v hy hv'
        simp only [if_true, if_neg (Nat.succ_ne_zero i)]
        refine key ?_ (hc i y v hy hv')
        intro hr'
        have := refsL_mem (List.mem_of_getElem? hy) (refs_of hr')
        rw [hrc] at this; cases this
      · rename_i e
        obtain ⟨ty', cells', b', cs', rfl, ho', hh', hs', hn', h1', hc'⟩ := h.blk κ' v hk' hv
        have e' : κ' ≠ κ := fun x => e x.symm
        refine ⟨ty', cells', b', cs', rfl, by simp only [if_neg e']; exact ho', hh', hs', hn', h1', ?_⟩
        intro i y v hy hv'
        have hx : ¬ Refs κ y := fun hr' => refsM_lk hr hv (.blk ty' cells' y (List.mem_of_getElem? hy) hr')
        have := key hx (hc' i y v hy hv')
        simpa only [if_neg e'] using this
    inj := by
      intro l i l' i' c hl hl'
      by_cases e : l = κ <;> by_cases e' : l' = κ
      · subst e; subst e'
        simp only [if_true] at hl hl'
        split at hl <;> split at hl' <;> simp_all
      · subst e
        simp only [if_true, if_neg e'] at hl hl'
        split at hl
        · obtain rfl := Option.some.inj hl; exact absurd hl' (hu _ _)
        · cases hl
      · subst e'
        simp only [if_true, if_neg e] at hl hl'
        split at hl'
        · obtain rfl := Option.some.inj hl'; exact absurd hl (hu _ _)
        · cases hl'
      · simp only [if_neg e, if_neg e'] at hl hl'
        exact h.inj _ _ _ _ _ hl hl'
    lt := by
      intro l i c hc'
      by_cases e : l = κ
      · simp only [if_pos e] at hc'
        split at hc'
        · obtain rfl := Option.some.inj hc'; exact (Array.getElem?_eq_some_iff.1 hb).1
        · cases hc'
      · simp only [if_neg e] at hc'; exact h.lt _ _ _ hc'
    mine := by
      intro l i c hc'
      by_cases e : l = κ
      · simp only [if_pos e] at hc'
        split at hc'
        · obtain rfl := Option.some.inj hc'; exact h0.elim .inl (fun h => .inr (.inl h))
        · cases hc'
      · simp only [if_neg e] at hc'; exact h.mine _ _ _ hc'
    mlt := h.mlt
    mold := h.mold
    mnew := h.mnew
    fr := h.fr
    pin := fun κ' b' hk' hp => by
      have e : κ' ≠ κ := fun e => by rw [e, hpn] at hp; cases hp
      simp only [if_neg e]; exact h.pin κ' b' hk' hp }
theorem Rel.forgetcell {Γ : Ctx} {M : Nat → Nat → Prop} {Ow : Loc → Nat → Option Nat} {a : Act} {w : World} (h : Rel P Γ M Ow n m a w) {κ : Loc} (hL : κ.isL = true) {ty : TypeId} {cells : List AV} (hl : lk m κ = some (.blk ty cells)) {off : Nat} (hoff : off < cells.length) :
    Rel P Γ M (setO Ow κ (off + 1) none) n ((κ, .blk ty (cells.set off .unk)) :: m) a w := by
  have hk := Loc.isL_blk hL
  obtain ⟨ty0, cells0, b, cs, e0, ho, hh, hs, hn, h1, hcs⟩ := h.blk κ _ hk hl
  obtain ⟨rfl, rfl⟩ : ty = ty0 ∧ cells = cells0 := by injection e0; exact ⟨‹_›, ‹_›⟩
  have h2 := h.labelblk (κ := κ) hk (v' := .blk ty (cells.set off .unk)) ⟨ty, _, b, cs, rfl, ho, hh, by simp [hs], hn, h1, by
    intro i y u hy hu
    rw [List.getElem?_set] at hy
    split at hy
    · first
        | (obtain rfl := Option.some.inj hy; exact VRel.unk _)
        | (split at hy
           · obtain rfl := Option.some.inj hy; exact VRel.unk _
           · cases hy)
    · exact hcs i y u hy hu⟩
  have hval : isVal κ (off + 1) = true := by cases κ <;> first | rfl | cases hk
  refine h2.setOw (l := κ) (i := off + 1) hval none (fun b hb => by cases hb) (fun t v e' => by rw [e'] at hk; cases hk) ?_
  intro ty' cells' j b' cs' y v _ hlk hj hy hb' hh' hv'
  rw [lk_self] at hlk
  obtain ⟨rfl, rfl⟩ : ty = ty' ∧ cells.set off .unk = cells' := by injection hlk with hlk; injection hlk; exact ⟨‹_›, ‹_›⟩
  obtain rfl : off = j := by omega
  rw [List.getElem?_set_self hoff] at hy
  obtain rfl := Option.some.inj hy
  exact VRel.unk _
theorem Rel.forgetcell_free {Γ : Ctx} {M : Nat → Nat → Prop} {Ow : Loc → Nat → Option Nat} {a : Act} {w : World} (h : Rel P Γ M Ow n m a w) {κ : Loc} (hL : κ.isL = true) {off b : Nat} (hb : Ow κ (off + 1) = some b) :
    (∀ l i, setO Ow κ (off + 1) none l i ≠ some b) ∧ b < w.heap.size ∧ (Γ.own0 b ∨ Γ.w0.heap.size ≤ b) := by
  refine ⟨fun l i e' => ?_, h.lt _ _ _ hb, h.mineL (fun j e => by rw [e] at hL; cases hL) hb⟩
  by_cases e2 : l = κ ∧ i = off + 1
  · obtain ⟨rfl, rfl⟩ := e2; rw [setO_self] at e'; cases e'
  · rw [setO_ne _ e2] at e'; exact e2 (h.inj _ _ _ _ _ e' hb)
theorem Rel.labelcell {Γ : Ctx} {M : Nat → Nat → Prop} {Ow : Loc → Nat → Option Nat} {a : Act} {w : World} (h : Rel P Γ M Ow n m a w) {κ : Loc} (hk : κ.isBlk = true) {ty : TypeId} {cells : List AV} (hl : lk m κ = some (.blk ty cells)) {off : Nat} {y' : AV}
    (hy : ∀ b cs u, Ow κ 0 = some b → w.heap[b]? = some (.cells cs ty (0, 0)) → cs[off]? = some u → SRel P w M Ow y' u (Ow κ (off + 1))) : Rel P Γ M Ow n ((κ, .blk ty (cells.set off y')) :: m) a w := by
  obtain ⟨ty0, cells0, b, cs, e0, ho, hh, hs, hn, h1, hcs⟩ := h.blk κ _ hk hl
  obtain ⟨rfl, rfl⟩ : ty = ty0 ∧ cells = cells0 := by injection e0; exact ⟨‹_›, ‹_›⟩
  refine h.labelblk hk ⟨ty, _, b, cs, rfl, ho, hh, by simp [hs], hn, h1, ?_⟩
  intro i y u hyi hu
  rw [List.getElem?_set] at hyi
  split at hyi
  · rename_i ei
    subst ei
    split at hyi
    · obtain rfl := Option.some.inj hyi; exact hy b cs u ho hh hu
    · cases hyi
  · exact hcs i y u hyi hu
theorem refsL_flat {κ : Loc} (xs : List T) (k : Nat) : refsL κ ((xs.flatMap T.cells).map AV.tr ++ List.replicate k AV.unk) = false := by
  have : ∀ l : List AV, (∀ y, y ∈ l → y.refs κ = false) → refsL κ l = false := by
    intro l
    induction l with
    | nil => intro _; rfl
    | cons y l ih => intro hl; simp only [refsL, Bool.or_eq_false_iff]; exact ⟨hl y (List.mem_cons_self ..), ih (fun z hz => hl z (List.mem_cons_of_mem _ hz))⟩
  refine this _ fun y hy => ?_
  rcases List.mem_append.1 hy with hy | hy
  · obtain ⟨t, _, rfl⟩ := List.mem_map.1 hy; rfl
  · rw [List.eq_of_mem_replicate hy]; rfl
theorem refsL_set {κ : Loc} {y : AV} (hy : y.refs κ = false) : ∀ {l : List AV} {i : Nat}, refsL κ l = false → refsL κ (l.set i y) = false
  | [], _, _ => rfl
  | x :: l, 0, h => by simp only [refsL, Bool.or_eq_false_iff] at h; simp only [List.set_cons_zero, refsL, Bool.or_eq_false_iff]; exact ⟨hy, h.2⟩
  | x :: l, i + 1, h => by simp only [refsL, Bool.or_eq_false_iff] at h; simp only [List.set_cons_succ, refsL, Bool.or_eq_false_iff]; exact ⟨h.1, refsL_set hy h.2⟩
theorem RelX.thawC (hT : TabOk P tab) {Γ : Ctx} {a : Act} {w : World} (h : RelX P Γ n m a w) {κ0 κ : Loc} {ty : TypeId} {cells : List AV} {off : Nat} {e es by' : Nat} {kd : TK} {zs : List AV} {xs : List T} (hL0 : κ0.isL = true) (hb : lk m κ0 = some (.blk ty cells)) (hc : cells[off]? = some (.raw e true xs)) (hne : xs ≠ [])
    (he : tlk tab e = some ⟨es, by', kd, zs⟩) (hpos : 0 < es) (hL : κ.isL = true) (hn0 : κ0.eqb κ = false) (hpn : Γ.pin κ = none) (hf : refsM κ m = false) :
    ∃ cap, xs.length ≤ cap ∧ RelX P Γ n ((κ0, .blk ty (cells.set off (.sl κ xs.length cap))) :: (κ, .blk e ((xs.flatMap T.cells).map .tr ++ List.replicate ((cap - xs.length) * es) .unk)) :: m) a w := by
  obtain ⟨M, Ow, hr⟩ := h
  obtain ⟨ie, hie, hsz, _⟩ := hT.info he
  have hsz : ie.size = es := hsz
  subst hsz
  have hk0 := Loc.isL_blk hL0
  have hne0 : κ0 ≠ κ := fun e => by rw [e, Loc.eqb_self] at hn0; cases hn0
  have hoff : off < cells.length := by
    rcases Nat.lt_or_ge off cells.length with h | h
    · exact h
    · rw [List.getElem?_eq_none h] at hc; cases hc
  obtain ⟨ty0, cells0, b0, cs0, e0, ho0, hh0, hs0, hn00, h10, hcs0⟩ := hr.blk κ0 _ hk0 hb
  obtain ⟨rfl, rfl⟩ : ty = ty0 ∧ cells = cells0 := by injection e0; exact ⟨‹_›, ‹_›⟩
  have hoff' : off < cs0.size := by omega
  have hv : RawRel P w M e true xs cs0[off] (Ow κ0 (off + 1)) := hcs0 off _ cs0[off] hc (by simp [hoff'])
  obtain ⟨b, cap, cs, ho, ev, hcap, hh, hsz, hn, h1, hcs⟩ := hv.blk hne hie hpos
  have hr2 := hr.forgetcell hL0 hb hoff
  obtain ⟨f1, f2, f3⟩ := hr.forgetcell_free hL0 ho
  have hcr : refsL κ cells = false := by
    have := refsM_lk' hf hb
    simpa only [AV.refs] using this
  have hf2 : refsM κ ((κ0, AV.blk ty (cells.set off .unk)) :: m) = false := by
    simp only [refsM, AV.refs, Bool.or_eq_false_iff]
    exact ⟨refsL_set rfl hcr, hf⟩
  have h3 := hr2.addblk' (κ := κ) (Loc.isL_blk hL) hpn hf2 (b := b) hh f1 f2 f3 hn hsz h1 (fun i y v hy hv => hcs _ i y v none hy hv) (refsL_flat _ _)
  have h4 := h3.labelcell (κ := κ0) hk0 (ty := ty) (cells := cells.set off .unk) (off := off) (y' := .sl κ xs.length cap) (by rw [lk_ne _ _ (fun e => hne0 e.symm), lk_self]) (by
    intro b' cs' u hb' hh' hu
    simp only [if_neg hne0] at hb'
    rw [setO_ne _ (fun e => by omega), ho0] at hb'
    obtain rfl := Option.some.inj hb'
    rw [hh0] at hh'
    obtain rfl : cs0 = cs' := by injection hh' with hh'; injection hh'
    have : u = cs0[off] := by simpa [hoff'] using hu.symm
    rw [this, ev]
    exact VRel.sl κ _ _ b (Loc.isL_blk hL) (by simp) hcap)
  refine ⟨cap, hcap, M, _, h4.sub ?_⟩
  intro l v hl
  rw [List.set_set]
  rw [lk_cons] at hl ⊢
  split
  · rename_i e; rw [if_pos e] at hl; exact hl
  · rename_i e
    rw [if_neg e] at hl
    rw [lk_cons] at hl ⊢
    split
    · rename_i e2; rw [if_pos e2] at hl; exact hl
    · rename_i e2; rw [if_neg e2] at hl; rw [lk_ne _ _ e]; exact hl
theorem Tr.thawC (hT : TabOk P tab) {c : Code} {Q : Exit → Store → Prop} (κ0 κ : Loc) (off : Nat) {ty : TypeId} {cells : List AV} {e es by' : Nat} {kd : TK} {zs : List AV} {xs : List T} (hL0 : κ0.isL = true) (hb : lk m κ0 = some (.blk ty cells)) (hc : cells[off]? = some (.raw e true xs)) (hne : xs ≠ [])
    (he : tlk tab e = some ⟨es, by', kd, zs⟩) (hpos : 0 < es) (hL : κ.isL = true) (hn0 : κ0.eqb κ = false) (hf : (freshB [κ] m && pinB [κ] G.pins) = true)
    (k : ∀ cap, xs.length ≤ cap → Tr P G n c ((κ0, .blk ty (cells.set off (.sl κ xs.length cap))) :: (κ, .blk e ((xs.flatMap T.cells).map .tr ++ List.replicate ((cap - xs.length) * es) .unk)) :: m) Q) : Tr P G n c m Q := fun Γ hΓ a w hr => by
  rw [Bool.and_eq_true] at hf
  have hpn : Γ.pin κ = none := by
    cases hx : Γ.pin κ with
    | none => rfl
    | some b => exact absurd (hΓ.2 κ (by rw [hx]; simp)) (pinB_eq hf.2 κ (by simp))
  obtain ⟨cap, hcap, hr'⟩ := hr.thawC hT hL0 hb hc hne he hpos hL hn0 hpn (freshB_eq hf.1 κ (by simp))
  exact k cap hcap Γ hΓ a w hr'
theorem freeze_rep {w : World} {M : Nat → Nat → Prop} {Ow : Loc → Nat → Option Nat} {κ : Loc} {b len cap es : Nat} {e : TypeId} {cells : List AV} {cs : Array Value} {xs : List T} (hh : w.heap[b]? = some (.cells cs e (0, 0))) (hs' : cs.size = cells.length)
    (h1 : ∀ (i : Nat) (v : Value), cs[i]? = some v → v.oneCell' = true) (hcs : ∀ (i : Nat) (y : AV) (v : Value), cells[i]? = some y → cs[i]? = some v → SRel P w M Ow y v (Ow κ (i + 1))) (hcap : len ≤ cap)
    (hlen : xs.length = len) (hsz : len * es ≤ cells.length) (hx : ∀ x, x ∈ xs → x.cells.length = es) (hc : ∀ (i j : Nat) (x y : T), xs[i]? = some x → x.cells[j]? = some y → ∃ v, cells[i * es + j]? = some v ∧ v.deg = .tr y) :
    Rep w (fun c o => M c o ∨ (c = b ∧ o < len * es)) (.ls xs) (.slice (some ⟨b, 0, none⟩) len cap) := by
  have lin : ∀ {i j : Nat}, i < xs.length → j < es → i * es + j < len * es := by
    intro i j hi hj
    have : (i + 1) * es ≤ len * es := Nat.mul_le_mul_right _ (by omega)
    rw [Nat.succ_mul] at this; omega
  rw [← hlen]
  by_cases h0 : xs.length = 0
  · obtain rfl := List.eq_nil_of_length_eq_zero h0
    exact .nil _ _
  · refine .ls xs b 0 es cap (fun i j => cs.getD (i * es + j) undef) (by omega) hx ?_ ?_ ?_ ?_
    · intro i j hi hj; exact .inr ⟨rfl, by rw [Nat.zero_add, hlen]; exact lin hi hj⟩
    · intro i j hi hj
      have := lin hi hj
      have hl : i * es + j < cs.size := by omega
      simp [World.cell?, hh, hl]
    · intro i j hi hj
      have := lin hi hj
      have hl : i * es + j < cs.size := by omega
      have := h1 (i * es + j) cs[i * es + j] (by simp [hl])
      simpa [hl] using this
    · intro i j x y hxi hyj
      obtain ⟨v, hv1, hv2⟩ := hc i j x y hxi hyj
      have hil : i < xs.length := by
        rcases Nat.lt_or_ge i xs.length with h | h
        · exact h
        · rw [List.getElem?_eq_none h] at hxi; cases hxi
      have hjl : j < es := by
        have := hx x (List.mem_of_getElem? hxi)
        rcases Nat.lt_or_ge j x.cells.length with h | h
        · omega
        · rw [List.getElem?_eq_none h] at hyj; cases hyj
      have := lin hil hjl
      have hl : i * es + j < cs.size := by omega
      have h3 := deg_vrel (hcs (i * es + j) v cs[i * es + j] hv1 (by simp [hl]))
      rw [hv2] at h3
      have h4 : Rep w M y cs[i * es + j] := by cases h3 with | tr _ _ h => exact h
      have e : cs.getD (i * es + j) undef = cs[i * es + j] := by simp [hl]
      rw [e]
      exact h4.mono (fun c o hc => ⟨.inl hc, rfl⟩)
theorem RelX.freezeC {Γ : Ctx} {a : Act} {w : World} (h : RelX P Γ n m a w) {κ0 κ : Loc} {ty : TypeId} {cells0 : List AV} {off len cap es : Nat} {e : TypeId} {cells : List AV} {xs : List T} (hL0 : κ0.isL = true) (hb0 : lk m κ0 = some (.blk ty cells0)) (hc0 : cells0[off]? = some (.sl κ len cap)) (hb : lk m κ = some (.blk e cells)) (hL : κ.isL = true)
    (hn0 : κ0.eqb κ = false) (hlen : xs.length = len) (hsz : len * es ≤ cells.length) (hx : ∀ x, x ∈ xs → x.cells.length = es) (hc : ∀ (i j : Nat) (x y : T), xs[i]? = some x → x.cells[j]? = some y → ∃ v, cells[i * es + j]? = some v ∧ v.deg = .tr y) :
    RelX P Γ n ((κ0, .blk ty (cells0.set off (.tr (.ls xs)))) :: delL κ m) a w := by
  obtain ⟨M, Ow, hr⟩ := h
  have hk0 := Loc.isL_blk hL0
  have hkb := Loc.isL_blk hL
  have hne0 : κ0 ≠ κ := fun e => by rw [e, Loc.eqb_self] at hn0; cases hn0
  obtain ⟨ty0, cells', b0, cs0, e0, ho0, hh0, hs0, hn00, h10, hcs0⟩ := hr.blk κ0 _ hk0 hb0
  obtain ⟨rfl, rfl⟩ : ty = ty0 ∧ cells0 = cells' := by injection e0; exact ⟨‹_›, ‹_›⟩
  have hoff : off < cells0.length := by
    rcases Nat.lt_or_ge off cells0.length with h | h
    · exact h
    · rw [List.getElem?_eq_none h] at hc0; cases hc0
  have hoff' : off < cs0.size := by omega
  have hv : VRel w M (fun κ => Ow κ 0) (.sl κ len cap) cs0[off] := hcs0 off _ cs0[off] hc0 (by simp [hoff'])
  obtain ⟨b, ho, hcap, hval⟩ : ∃ b, Ow κ 0 = some b ∧ len ≤ cap ∧ cs0[off] = .slice (some ⟨b, 0, none⟩) len cap := by
    generalize cs0[off] = q at hv
    cases hv with | sl _ _ _ b hk hb hc => exact ⟨b, hb, hc, rfl⟩
  obtain ⟨ty1, cells1, b1, cs, e1, ho', hh, hs', hn, h1, hcs⟩ := hr.blk κ _ hkb hb
  obtain ⟨rfl, rfl⟩ : e = ty1 ∧ cells = cells1 := by injection e1 with e1 e2; exact ⟨e1, e2⟩
  obtain rfl : b = b1 := by rw [ho] at ho'; exact Option.some.inj ho'
  have hd : Rel P Γ M Ow n (delL κ m) a w := hr.sub (fun l v hl => by
    rw [lk_del] at hl
    split at hl
    · cases hl
    · exact hl)
  have hM := hd.addM (N := len * es) hL ho (by rw [lk_del, if_pos rfl])
  refine ⟨_, Ow, hM.labelcell hk0 (ty := ty) (cells := cells0) (off := off) (by rw [lk_del, if_neg hne0]; exact hb0) ?_⟩
  intro b' cs' u hb' hh' hu
  rw [ho0] at hb'
  obtain rfl := Option.some.inj hb'
  rw [hh0] at hh'
  obtain rfl : cs0 = cs' := by injection hh' with hh'; injection hh'
  have : u = cs0[off] := by simpa [hoff'] using hu.symm
  rw [this, hval]
  exact VRel.tr _ _ (freeze_rep hh hs' h1 hcs hcap hlen hsz hx hc)
end
end Go.Lg

set_option linter.unusedVariables false
set_option linter.unusedSimpArgs false
namespace Go.Lg
open Go Go.RowKit
section
variable {P : Program} {G : Env} {n : Nat} {tab : Tab} {m : Store}
theorem Rel.swapD {Γ : Ctx} {M : Nat → Nat → Prop} {Ow : Loc → Nat → Option Nat} {a : Act} {w : World} (hr : Rel P Γ M Ow n m a w) {s d : Nat} (hd : d < n) {y : AV} (hy : lk m (.s s) = some y) {x : AV} (hx : x.isOwn = true) {cv : Value} (hv : SRel P w M Ow x cv (Ow (.s s) 0)) :
    RelX P Γ n ((.s d, x) :: (.s s, y.deg) :: m) (a.put (some d) cv) w := by
  have hdg : ∀ o, SRel P w M Ow y.deg (a.tmps.getD s undef) o := fun o => srel_of (deg_vrel (hr.slot s _ hy)) o
  have h2 := (hr.label (t := s) (v' := y.deg) (hdg _)).setOw (l := .s s) (i := 0) rfl none (fun b hb => by cases hb) (fun t v e hv => by
    obtain rfl : s = t := by injection e
    rw [lk_self] at hv; obtain rfl := Option.some.inj hv; exact hdg _) (fun _ _ _ _ _ _ _ e => by cases e)
  exact ⟨_, _, h2.putv hd (o := Ow (.s s) 0) (own_any hx hv) (own_refs hx) (fun b hb => hr.forget_free hb)⟩
def oneOwn : AV → Bool
  | .own _ _ => true
  | .raw _ _ _ => true
  | _ => false
theorem isOwn_one {w : World} {M : Nat → Nat → Prop} {Ow : Loc → Nat → Option Nat} {x : AV} {v : Value} {o : Option Nat} (h : SRel P w M Ow x v o) (hx : oneOwn x = true) : v.oneCell' = true := by
  cases x with
  | own ty xs =>
    obtain ⟨_, _, _, ⟨_, _, h⟩ | ⟨_, _, _, _, _, h, _⟩⟩ := h
    · rw [h]; rfl
    · rw [h]; rfl
  | raw ty z xs =>
    obtain ⟨_, _, _, ⟨_, _, h⟩ | ⟨_, _, _, _, _, h, _⟩⟩ := h
    · rw [h]; rfl
    · rw [h]; rfl
  | _ => cases hx
end
end Go.Lg

set_option linter.unusedVariables false
set_option linter.unusedSimpArgs false
namespace Go.Lg
open Go Go.RowKit
section
variable {P : Program} {G : Env} {n : Nat} {tab : Tab} {m : Store}
def swp (κ κ' l : Loc) : Loc := match κ.eqb l with
  | true => κ'
  | false => l
mutual
def AV.rn (κ κ' : Loc) : AV → AV
  | .ptr k o => .ptr (swp κ κ' k) o
  | .sl k a b => .sl (swp κ κ' k) a b
  | .agg xs => .agg (rnL κ κ' xs)
  | .tup xs => .tup (rnL κ κ' xs)
  | .fn f xs => .fn f (rnL κ κ' xs)
  | .blk t xs => .blk t (rnL κ κ' xs)
  | v => v
def rnL (κ κ' : Loc) : List AV → List AV
  | [] => []
  | x :: xs => x.rn κ κ' :: rnL κ κ' xs
end
theorem rnL_map (κ κ' : Loc) : ∀ xs : List AV, rnL κ κ' xs = xs.map (·.rn κ κ')
  | [] => rfl
  | x :: xs => by simp only [rnL, List.map_cons]; rw [rnL_map κ κ' xs]
theorem swp_self (κ κ' : Loc) : swp κ κ' κ = κ' := by unfold swp; rw [Loc.eqb_self]
theorem swp_ne {κ κ' l : Loc} (h : κ ≠ l) : swp κ κ' l = l := by unfold swp; rw [Loc.eqb_ne h]
theorem swp_blk {κ κ' l : Loc} (h : κ'.isBlk = true) (hl : l.isBlk = true) : (swp κ κ' l).isBlk = true := by
  unfold swp; split <;> assumption
theorem rn_vrel {w : World} {M : Nat → Nat → Prop} {bk bk' : Loc → Option Nat} {κ κ' : Loc} (hk' : κ'.isBlk = true) (hbk : ∀ l b, l ≠ κ' → bk l = some b → bk' (swp κ κ' l) = some b) {y : AV} {v : Value} (h : VRel w M bk y v) : (∀ l, Refs l y → l ≠ κ') → VRel w M bk' (y.rn κ κ') v := by
  induction h with
  | unk v => intro _; exact .unk v
  | und => intro _; exact .und
  | tr t v h => intro _; exact .tr t v h
  | ptr k off b hk h => intro hy; exact .ptr _ off b (swp_blk hk' hk) (hbk k b (hy k (.ptr off)) h)
  | sl k len cap b hk h hc => intro hy; exact .sl _ len cap b (swp_blk hk' hk) (hbk k b (hy k (.sl len cap)) h) hc
  | ep cs off b o f h1 h2 h3 h4 => intro _; exact .ep cs off b o f h1 h2 h3 h4
  | agg xs cs h1 h2 h3 ih =>
    intro hy
    simp only [AV.rn]
    rw [rnL_map]
    refine .agg _ _ (by simpa using h1) h2 fun i x v hx hv => ?_
    rw [List.getElem?_map] at hx
    obtain ⟨x0, hx0, rfl⟩ := Option.map_eq_some_iff.1 hx
    exact ih i x0 v hx0 hv (fun l hl => hy l (.agg xs x0 (List.mem_of_getElem? hx0) hl))
  | tup xs cs h1 h2 ih =>
    intro hy
    simp only [AV.rn]
    rw [rnL_map]
    refine .tup _ _ (by simpa using h1) fun i x v hx hv => ?_
    rw [List.getElem?_map] at hx
    obtain ⟨x0, hx0, rfl⟩ := Option.map_eq_some_iff.1 hx
    exact ih i x0 v hx0 hv (fun l hl => hy l (.tup xs x0 (List.mem_of_getElem? hx0) hl))
  | fn f xs cs h1 h2 ih =>
    intro hy
    simp only [AV.rn]
    rw [rnL_map]
    refine .fn f _ _ (by simpa using h1) fun i x v hx hv => ?_
    rw [List.getElem?_map] at hx
    obtain ⟨x0, hx0, rfl⟩ := Option.map_eq_some_iff.1 hx
    exact ih i x0 v hx0 hv (fun l hl => hy l (.fn f xs x0 (List.mem_of_getElem? hx0) hl))
theorem rn_srel {w : World} {M : Nat → Nat → Prop} {Ow Ow' : Loc → Nat → Option Nat} {κ κ' : Loc} (hk' : κ'.isBlk = true) (hbk : ∀ l b, l ≠ κ' → Ow l 0 = some b → Ow' (swp κ κ' l) 0 = some b) {y : AV} {v : Value} {o : Option Nat} (h : SRel P w M Ow y v o) (hy : ∀ l, Refs l y → l ≠ κ') : SRel P w M Ow' (y.rn κ κ') v o := by
  cases y with
  | own ty xs => exact h
  | raw ty z xs => exact h
  | rtup ty z xs rest => exact h
  | _ => exact rn_vrel (bk := fun l => Ow l 0) (bk' := fun l => Ow' l 0) hk' hbk h hy
def rnS (κ κ' : Loc) (m : Store) : Store := m.map fun p => (swp κ κ' p.1, p.2.rn κ κ')
theorem lk_rnS {κ κ' : Loc} : ∀ {m : Store} {l : Loc} {v' : AV}, lk (rnS κ κ' m) l = some v' → ∃ l0 y, lk m l0 = some y ∧ swp κ κ' l0 = l ∧ v' = y.rn κ κ'
  | [], l, v', h => by cases h
  | (k, u) :: r, l, v', h => by
    have h : lk ((swp κ κ' k, u.rn κ κ') :: rnS κ κ' r) l = some v' := h
    rw [lk_cons] at h
    split at h
    · rename_i e
      obtain rfl := Option.some.inj h
      exact ⟨k, u, lk_self .., e, rfl⟩
    · rename_i e
      obtain ⟨l0, y, h1, h2, h3⟩ := lk_rnS h
      refine ⟨l0, y, ?_, h2, h3⟩
      rw [lk_ne _ _ (fun e' => e (by rw [e']; exact h2))]; exact h1
theorem RelX.ren {Γ : Ctx} {a : Act} {w : World} (h : RelX P Γ n m a w) {κ κ' : Loc} (hL : κ.isL = true) (hL' : κ'.isL = true) (hne : κ ≠ κ') (hno : lk m κ' = none) (hf : refsM κ' m = false) (hp : Γ.pin κ = none) (hp' : Γ.pin κ' = none) : RelX P Γ n (rnS κ κ' m) a w := by
  obtain ⟨M, Ow, hr⟩ := h
  have hk := Loc.isL_blk hL
  have hk' := Loc.isL_blk hL'
  let Ow' : Loc → Nat → Option Nat := fun l i => if l = κ' then Ow κ i else if l = κ then none else Ow l i
  have hs : ∀ l i, l ≠ κ' → Ow' (swp κ κ' l) i = Ow l i := by
    intro l i hl
    by_cases e : κ = l
    · subst e; rw [swp_self]; show (if κ' = κ' then Ow κ i else _) = _; rw [if_pos rfl]
    · rw [swp_ne e]; show (if l = κ' then Ow κ i else if l = κ then none else Ow l i) = _; rw [if_neg hl, if_neg (fun e' => e e'.symm)]
  have hbk : ∀ l b, l ≠ κ' → Ow l 0 = some b → Ow' (swp κ κ' l) 0 = some b := fun l b hl h => by rw [hs l 0 hl]; exact h
  have hrf : ∀ {l0 : Loc} {y : AV}, lk m l0 = some y → ∀ l, Refs l y → l ≠ κ' := fun h1 l hl e => by subst e; exact refsM_lk hf h1 hl
  have hl0 : ∀ {l0 : Loc} {y : AV}, lk m l0 = some y → l0 ≠ κ' := fun h1 e => by subst e; rw [hno] at h1; cases h1
  have back : ∀ l i b, Ow' l i = some b → ∃ l0, Ow l0 i = some b ∧ l0 ≠ κ' ∧ swp κ κ' l0 = l := by
    intro l i b hb
    have hb : (if l = κ' then Ow κ i else if l = κ then none else Ow l i) = some b := hb
    split at hb
    · rename_i e; exact ⟨κ, hb, hne, by rw [swp_self, e]⟩
    · rename_i e1
      split at hb
      · cases hb
      · rename_i e2; exact ⟨l, hb, e1, swp_ne (fun e => e2 e.symm)⟩
  refine ⟨M, Ow', {
    size := hr.size
    defers := hr.defers
    slot := ?_
    blk := ?_
    inj := ?_
    lt := ?_
    mine := ?_
    mlt := hr.mlt
    mold := hr.mold
    mnew := hr.mnew
    fr := hr.fr
    pin := ?_ }⟩
  · intro t v' hv'
    obtain ⟨l0, y, h1, h2, rfl⟩ := lk_rnS hv'
    have e : l0 = .s t := by
      by_cases e : κ = l0
      · subst e; rw [swp_self] at h2; rw [h2] at hL'; cases hL'
      · rw [swp_ne e] at h2; exact h2
    subst e
    have := rn_srel hk' hbk (hr.slot t y h1) (hrf h1)
    rw [← h2, hs _ 0 (hl0 h1)]; exact this
  · intro l v' hl hv'
    obtain ⟨l0, y, h1, h2, rfl⟩ := lk_rnS hv'
    have hl0b : l0.isBlk = true := by
      by_cases e : κ = l0
      · subst e; exact hk
      · rw [swp_ne e] at h2; rw [h2]; exact hl
    obtain ⟨ty, cells, b, cs, rfl, ho, hh, hsz, hn, h3, h4⟩ := hr.blk l0 y hl0b h1
    refine ⟨ty, rnL κ κ' cells, b, cs, rfl, by rw [← h2, hs _ 0 (hl0 h1)]; exact ho, hh, by rw [rnL_map, List.length_map]; exact hsz, hn, h3, ?_⟩
    intro i x v hx hv
    rw [rnL_map, List.getElem?_map] at hx
    obtain ⟨x0, hx0, rfl⟩ := Option.map_eq_some_iff.1 hx
    rw [← h2, hs _ (i + 1) (hl0 h1)]
    exact rn_srel hk' hbk (h4 i x0 v hx0 hv) (fun l hl => hrf h1 l (.blk ty cells x0 (List.mem_of_getElem? hx0) hl))
  · intro l i l' i' b hb hb'
    obtain ⟨l0, h1, _, h3⟩ := back l i b hb
    obtain ⟨l1, h4, _, h6⟩ := back l' i' b hb'
    obtain ⟨e1, e2⟩ := hr.inj _ _ _ _ _ h1 h4
    subst e1
    exact ⟨h3.symm.trans h6, e2⟩
  · intro l i b hb
    obtain ⟨l0, h1, _, _⟩ := back l i b hb
    exact hr.lt _ _ _ h1
  · intro l i b hb
    obtain ⟨l0, h1, _, h3⟩ := back l i b hb
    rcases hr.mine _ _ _ h1 with h | h | ⟨j, e, h⟩
    · exact .inl h
    · exact .inr (.inl h)
    · subst e
      refine .inr (.inr ⟨j, ?_, h⟩)
      rw [swp_ne (fun e => by rw [e] at hL; cases hL)] at h3; exact h3.symm
  · intro l b hl hpl
    have h1 : l ≠ κ' := fun e => by rw [e, hp'] at hpl; cases hpl
    have h2 : l ≠ κ := fun e => by rw [e, hp] at hpl; cases hpl
    show (if l = κ' then Ow κ 0 else if l = κ then none else Ow l 0) = some b
    rw [if_neg h1, if_neg h2]; exact hr.pin l b hl hpl
theorem pin_none {Γ : Ctx} (hΓ : G.ok Γ) {κ : Loc} (h : pinB [κ] G.pins = true) : Γ.pin κ = none := by
  cases hx : Γ.pin κ with
  | none => rfl
  | some b => exact absurd (hΓ.2 κ (by rw [hx]; simp)) (pinB_eq h κ (by simp))
theorem Tr.ren {c : Code} {Q : Exit → Store → Prop} (κ κ' : Loc) (hL : κ.isL = true) (hL' : κ'.isL = true) (hne : κ ≠ κ') (hno : lk m κ' = none) (hf : refsM κ' m = false) (hp : pinB [κ] G.pins = true) (hp' : pinB [κ'] G.pins = true) (k : Tr P G n c (rnS κ κ' m) Q) : Tr P G n c m Q :=
  fun Γ hΓ a w hr => k Γ hΓ a w (hr.ren hL hL' hne hno hf (pin_none hΓ hp) (pin_none hΓ hp'))
structure CPreX (P : Program) (G : World → Prop) (M : Nat → Nat → Prop) (Ow : Loc → Nat → Option Nat) (args : List AV) (H : Store) (cargs : Array Value) (w : World) : Prop where
  size : cargs.size = args.length
  arg : ∀ (i : Nat) (x : AV) (v : Value), args[i]? = some x → cargs[i]? = some v → VRel w M (fun κ => Ow κ 0) x v
  blk : ∀ κ v, lk H κ = some v → BRel P w M Ow κ v
  only : ∀ l i b, Ow l i = some b → l.isL = true ∧ ∃ cs ty, w.heap[b]? = some (.cells cs ty (0, 0))
  inj : ∀ l i l' i' b, Ow l i = some b → Ow l' i' = some b → l = l' ∧ i = i'
  mlt : ∀ b o, M b o → b < w.heap.size
  stab : ∀ w', Fr w (fun b => ∃ l i, Ow l i = some b) M w' → G w'
  base : ∃ w1, G w1 ∧ (∀ b, (∃ l i, Ow l i = some b) → w1.heap.size ≤ b) ∧ w1.heap.size ≤ w.heap.size
structure CPostX (P : Program) (M : Nat → Nat → Prop) (Ow : Loc → Nat → Option Nat) (H : Store) (R : AV → Store → Prop) (w : World) (cv : Value) (w' : World) : Prop where
  fr : Fr w (fun b => ∃ l i, Ow l i = some b) M w'
  res : ∃ (M' : Nat → Nat → Prop) (Ow' : Loc → Nat → Option Nat) (r : AV) (N : Store) (o : Option Nat), R r N ∧ (∀ b k, M b k → M' b k) ∧ (∀ b k, M' b k → M b k ∨ (∃ l i, Ow l i = some b) ∨ w.heap.size ≤ b) ∧ (∀ b k, M' b k → b < w'.heap.size) ∧
    (∀ l i l' i' b, Ow' l i = some b → Ow' l' i' = some b → l = l' ∧ i = i') ∧ (∀ l i b, Ow' l i = some b → b < w'.heap.size ∧ ((∃ l i, Ow l i = some b) ∨ w.heap.size ≤ b)) ∧
    (∀ b, o = some b → b < w'.heap.size ∧ ((∃ l i, Ow l i = some b) ∨ w.heap.size ≤ b) ∧ ∀ l i, lk N l ≠ none → Ow' l i ≠ some b) ∧
    (∀ κ, lk H κ ≠ none → lk N κ ≠ none ∧ Ow' κ 0 = Ow κ 0) ∧ (∀ κ v, lk N κ = some v → κ.isL = true ∧ BRel P w' M' Ow' κ v) ∧ SRel P w' M' Ow' r cv o
def FnX (P : Program) (G : World → Prop) (f : FuncId) (args : List AV) (H : Store) (R : AV → Store → Prop) : Prop :=
  Callable P f ∧ ∀ M Ow w cargs, G w → CPreX P G M Ow args H cargs w → Calls P f cargs w fun e w' => ∃ cv, e = .returned cv ∧ CPostX P M Ow H R w cv w'
def resX (tab : Tab) (m : Store) (rs : List ResultVar) : Option AV := match resO tab m rs with
  | some r => match r.isOwn with
    | true => none
    | false => some r
  | none => match rs with
    | [.cell a t] => match lk m (.s a), tlk tab t with
      | some (.ptr κ 0), some ⟨size, _, kind, _⟩ => match lk m κ with
        | some (.blk _ cells) => match kind.agg, Nat.beq cells.length size with
          | true, true => some (.agg (cells.map AV.deg))
          | _, _ => none
        | _ => none
      | _, _ => none
    | _ => none
theorem resX_own {m : Store} {rs : List ResultVar} {v : AV} (h : resX tab m rs = some v) : v.isOwn = false := by
  unfold resX at h
  split at h
  · split at h
    · cases h
    · rename_i hn; obtain rfl := Option.some.inj h; exact hn
  · split at h
    · split at h
      · split at h
        · split at h
          · obtain rfl := Option.some.inj h; rfl
          · cases h
        · cases h
      · cases h
    · cases h
theorem resX_ok (hT : TabOk P tab) {fn : Func} {v : AV} (h : resX tab m fn.results.toList = some v) {Γ : Ctx} {M : Nat → Nat → Prop} {Ow : Loc → Nat → Option Nat} {a : Act} {w : World} (hr : Rel P Γ M Ow n m a w) :
    ∃ cv, (results fn a.tmps).run P w = .ok cv w ∧ SRel P w M Ow v cv none := by
  have hown := resX_own h
  unfold resX at h
  split at h
  · rename_i r hres
    split at h
    · cases h
    · obtain rfl := Option.some.inj h
      obtain ⟨cv, e1, _, o, e2, _⟩ := resO_ok hT hres hr
      exact ⟨cv, e1, srel_of (vrel_of e2 hown) none⟩
  · split at h
    · rename_i ad t hres
      split at h
      · rename_i κ size by' kind zs ha ht
        split at h
        · rename_i ty cells hκ
          split at h
          · rename_i hagg hlen
            obtain rfl := Option.some.inj h
            have hlen := Nat.eq_of_beq_eq_true hlen
            have hq : VRel w M (fun κ => Ow κ 0) (.ptr κ 0) (a.tmps.getD ad undef) := hr.slot ad _ ha
            obtain ⟨b, hk, hb, hv⟩ : ∃ b, κ.isBlk = true ∧ Ow κ 0 = some b ∧ a.tmps.getD ad undef = .pointer (some ⟨b, 0, none⟩) := by
              generalize a.tmps.getD ad undef = q at hq
              cases hq with | ptr _ _ b hk hb => exact ⟨b, hk, hb, rfl⟩
            obtain ⟨ty0, cells0, b0, cs, e0, ho, hh, hs', hn, h1, hcs⟩ := hr.blk κ _ hk hκ
            obtain ⟨rfl, rfl⟩ : ty = ty0 ∧ cells = cells0 := by injection e0; exact ⟨‹_›, ‹_›⟩
            obtain rfl : b = b0 := by rw [hb] at ho; exact Option.some.inj ho
            have hld := run_loadVar_agg (P := P) (w := w) (b := b) (o := 0) (cs := cs.toList) hT ht hagg (by simp [hs', hlen]) (fun j u hj => by
              rw [Nat.zero_add]
              simp [World.cell?, hh]
              simpa using hj)
            refine ⟨.agg cs.toList.toArray, ?_, ?_⟩
            · have hm : fn.results.mapM (fun x => resV x a.tmps) = (do let l ← fn.results.toList.mapM (fun x => resV x a.tmps); pure l.toArray : Sem (Array Value)) := by
                rw [Array.mapM_eq_mapM_toList]; rfl
              rw [results_eq, hm, hres]
              have h0 : (resV (.cell ad t) a.tmps).run P w = .ok (.agg cs.toList.toArray) w := by
                have e : resV (.cell ad t) a.tmps = (Bind.bind (asAddr (a.tmps.getD ad undef)) fun p => loadVar t p) := rfl
                rw [e, hv]
                exact hld
              simp [List.mapM_cons, h0]
            · refine VRel.agg _ _ (by simp [hs']) (fun i v hv => h1 i v (by simpa using hv)) fun i x v hx hv => ?_
              rw [List.getElem?_map] at hx
              obtain ⟨y, hy, rfl⟩ := Option.map_eq_some_iff.1 hx
              exact deg_vrel (hcs i y v hy (by simpa using hv))
          · cases h
        · cases h
      · cases h
    · cases h
def retX (tab : Tab) (res : List ResultVar) (H : Store) (R : AV → Store → Prop) : Exit → Store → Prop
  | .ret, m => ∃ r N, resX tab m res = some r ∧ R r N ∧ (∀ κ v, lk N κ = some v → κ.isL = true ∧ lk m κ = some v) ∧ ∀ κ, lk H κ ≠ none → lk N κ ≠ none
  | .normal, m => ∃ r N, resX tab m res = some r ∧ R r N ∧ (∀ κ v, lk N κ = some v → κ.isL = true ∧ lk m κ = some v) ∧ ∀ κ, lk H κ ≠ none → lk N κ ≠ none
  | _, _ => False
theorem FnX.of {G : World → Prop} {f : FuncId} {fn : Func} {c : Code} {args : List AV} {H : Store} {R : AV → Store → Prop} (pins : List Loc) (hT : TabOk P tab) (hf : P.funcs[f]? = some fn) (hb : fn.body = some c) (hname : (fn.name == "runtime.NumGoroutine") = false)
    (hargs : args.length ≤ fn.ntmps) (hn : fn.ntmps = n) (hH : ∀ κ v, lk H κ = some v → κ.isBlk = true ∧ κ ∈ pins) (h : Tr P ⟨G, pins⟩ n c (entryS args 0 H) (retX tab fn.results.toList H R)) : FnX P G f args H R := by
  subst hn
  refine ⟨⟨fn, hf, hname, by rw [hb]; rfl⟩, fun M Ow w cargs hgw hp => ?_⟩
  refine (callsIn_wide (n := 0)).1 (callsIn_of_wp_marks hf hb trivial ?_ rfl)
  classical
  let Γ : Ctx := ⟨w, fun b => ∃ l i, Ow l i = some b, M, fun _ => False, G, hp.stab, [], none, (fun l h => by cases h), fun κ => if lk H κ = none then none else Ow κ 0, hp.base⟩
  have hsz : cargs.size ≤ fn.ntmps := by rw [hp.size]; exact hargs
  have hlt : ∀ l i b, Ow l i = some b → b < w.heap.size := fun l i b hb => by
    obtain ⟨_, cs, ty, h⟩ := hp.only l i b hb
    exact (Array.getElem?_eq_some_iff.1 h).1
  have hr : RelX P Γ fn.ntmps (entryS args 0 H) { tmps := cargs ++ Array.replicate (fn.ntmps - cargs.size) undef, defers := [] } w := by
    refine ⟨M, Ow, {
      size := by simp; omega
      defers := ⟨[], rfl, List.nodup_nil, fun D h => by cases h⟩
      slot := ?_
      blk := ?_
      inj := hp.inj
      lt := hlt
      mine := fun l i b hb => .inl ⟨l, i, hb⟩
      mlt := hp.mlt
      mold := fun b o h => h
      mnew := fun b o h => .inl h
      pin := fun κ b hk h => by
        have h : (if lk H κ = none then none else Ow κ 0) = some b := h
        split at h
        · cases h
        · exact h
      fr := ⟨rfl, rfl, rfl, Nat.le_refl _, fun _ _ _ => rfl, fun b cs ty z h => ⟨cs, h, rfl⟩, fun _ _ _ => rfl⟩ }⟩
    · intro t v hv
      obtain ⟨_, h2⟩ := lk_entry (fun κ v h => (hH κ v h).1) hv
      simp only [Nat.sub_zero] at h2
      have hlt : t < cargs.size := by
        rw [hp.size]
        rcases Nat.lt_or_ge t args.length with h | h
        · exact h
        · rw [List.getElem?_eq_none h] at h2; cases h2
      have : (cargs ++ Array.replicate (fn.ntmps - cargs.size) undef).getD t undef = cargs[t] := by
        rw [Array.getD_eq_getD_getElem?, Array.getElem?_append_left hlt]; simp [hlt]
      show SRel P w M Ow v ((cargs ++ Array.replicate (fn.ntmps - cargs.size) undef).getD t undef) _
      rw [this]
      exact srel_of (hp.arg t v _ h2 (by simp [hlt])) _
    · intro κ v hk hv
      rw [lk_entry_blk hk] at hv
      exact hp.blk κ v hv
  refine Go.wpIn_mono (F := FW none) (h Γ ⟨rfl, fun κ h => by
    have h : (if lk H κ = none then none else Ow κ 0) ≠ none := h
    split at h
    · exact absurd rfl h
    · rename_i h2
      obtain ⟨v, hv⟩ := Option.ne_none_iff_exists'.1 h2
      exact (hH κ v hv).2⟩ _ w hr) fun e a' w' hq => ?_
  obtain ⟨m', hq, M', Ow', hr'⟩ := hq
  have fin : (∃ r N, resX tab m' fn.results.toList = some r ∧ R r N ∧ (∀ κ v, lk N κ = some v → κ.isL = true ∧ lk m' κ = some v) ∧ ∀ κ, lk H κ ≠ none → lk N κ ≠ none) → LeavesInM (FW none) 0 P fn a'.tmps (fun e w' => ∃ cv, e = .returned cv ∧ CPostX P M Ow H R w cv w') a'.defers .returning w' := by
    rintro ⟨r, N, h1, h2, hN1, hN2⟩
    obtain ⟨Ds, hd1, hd2, hd3⟩ := hr'.defers
    have key : ∀ (Ds : List Nat) (a' : Act) (w' : World), Rel P Γ M' Ow' fn.ntmps m' a' w' → a'.defers = Ds.map markD → Ds.Nodup → (∀ D, D ∈ Ds → w.heap.size ≤ D ∧ w'.heap[D]? = some (.deferred (some []))) →
        LeavesInM (FW none) 0 P fn a'.tmps (fun e w' => ∃ cv, e = .returned cv ∧ CPostX P M Ow H R w cv w') (Ds.map markD) .returning w' := by
      intro Ds
      induction Ds with
      | nil =>
        intro a' w' hr' hd _ _
        obtain ⟨cv, e1, e2⟩ := resX_ok hT h1 hr'
        have mine : ∀ l i b, Ow' l i = some b → (∃ l i, Ow l i = some b) ∨ w.heap.size ≤ b := fun l i b hb => by
          rcases hr'.mine l i b hb with h | h | ⟨j, _, h⟩
          · exact .inl h
          · exact .inr h
          · exact h.elim
        refine ⟨cv, e1, cv, rfl, ⟨hr'.fr, M', Ow', r, N, none, h2, hr'.mold, ?_, hr'.mlt, hr'.inj, fun l i b hb => ⟨hr'.lt l i b hb, mine l i b hb⟩, (fun b e => nomatch e), ?_, ?_, e2⟩⟩
        · intro b k hb
          rcases hr'.mnew b k hb with h | h | h
          · exact .inl h
          · exact .inr (.inl h)
          · exact .inr (.inr h)
        · intro κ hκ
          refine ⟨hN2 κ hκ, ?_⟩
          obtain ⟨v, hv⟩ := Option.ne_none_iff_exists'.1 hκ
          obtain ⟨ty, cells, b, cs, rfl, ho, _⟩ := hp.blk κ v hv
          rw [ho]
          exact hr'.pin κ b (hH κ _ hv).1 (show (if lk H κ = none then none else Ow κ 0) = some b by rw [if_neg hκ]; exact ho)
        · intro κ v hv
          obtain ⟨q1, q2⟩ := hN1 κ v hv
          exact ⟨q1, hr'.blk κ v (Loc.isL_blk q1) q2⟩
      | cons D Ds ih =>
        intro a' w' hr' hd hn hD
        refine ⟨by simp, .inl ⟨D, _, rfl, run_takeDeferred (hD D (List.mem_cons_self ..)).2, ?_⟩⟩
        have hr2 := hr'.drop hn hD
        rw [List.append_nil] at hr2
        exact ih { a' with defers := Ds.map markD } _ hr2 rfl (List.nodup_cons.1 hn).2 (fun d hd => ⟨(hD d (List.mem_cons_of_mem _ hd)).1, (World.putObj_heap_other (fun (e : d = D) => (List.nodup_cons.1 hn).1 (by rw [← e]; exact hd))).trans (hD d (List.mem_cons_of_mem _ hd)).2⟩)
    rw [List.append_nil] at hd1
    rw [hd1]
    exact key Ds a' w' hr' hd1 hd2 hd3
  cases e with
  | ret => exact fin hq
  | normal => exact fin hq
  | _ => exact hq.elim
end
end Go.Lg

set_option linter.unusedVariables false
set_option linter.unusedSimpArgs false
namespace Go.Lg
open Go Go.RowKit
section
variable {P : Program} {G : Env} {n : Nat} {tab : Tab} {m : Store}
end
end Go.Lg

set_option linter.unusedVariables false
set_option linter.unusedSimpArgs false
namespace Go.Lg
open Go Go.RowKit
section
variable {P : Program} {G : Env} {n : Nat} {tab : Tab} {m : Store}
end
end Go.Lg

set_option linter.unusedVariables false
set_option linter.unusedSimpArgs false
namespace Go.Lg
open Go Go.RowKit
section
variable {P : Program} {G : Env} {n : Nat} {tab : Tab} {m : Store}
end
end Go.Lg

set_option linter.unusedVariables false
set_option linter.unusedSimpArgs false
namespace Go.Lg
open Go Go.RowKit
section
variable {P : Program} {G : Env} {n : Nat} {tab : Tab} {m : Store}
end
end Go.Lg

set_option linter.unusedVariables false
set_option linter.unusedSimpArgs false
namespace Go.Lg
open Go Go.RowKit
section
variable {P : Program} {G : Env} {n : Nat} {tab : Tab} {m : Store}
end
end Go.Lg

set_option linter.unusedVariables false
set_option linter.unusedSimpArgs false
namespace Go.Lg
open Go Go.RowKit
section
variable {P : Program} {G : Env} {n : Nat} {tab : Tab} {m : Store}
end
end Go.Lg

set_option linter.unusedVariables false
set_option linter.unusedSimpArgs false
namespace Go.Lg
open Go Go.RowKit
section
variable {P : Program} {G : Env} {n : Nat} {tab : Tab} {m : Store}
theorem Rel.slotv {Γ : Ctx} {M : Nat → Nat → Prop} {Ow : Loc → Nat → Option Nat} {a : Act} {w : World} (h : Rel P Γ M Ow n m a w) {s : Nat} (hs : s < n) {cv : Value} {x : AV} (hx : SRel P w M Ow x cv (Ow (.s s) 0)) :
    Rel P Γ M Ow n ((.s s, x) :: m) { a with tmps := a.tmps.setIfInBounds s cv } w := by
  refine { h with size := by simp [h.size], slot := ?_, blk := ?_ }
  · intro t v hv
    rw [lk_cons] at hv
    by_cases e : t = s
    · subst e
      rw [if_pos rfl] at hv
      obtain rfl := Option.some.inj hv
      have : (a.tmps.setIfInBounds t cv).getD t undef = cv := by
        rw [Array.getD_eq_getD_getElem?, Array.getElem?_setIfInBounds_self_of_lt (by rw [h.size]; exact hs)]; rfl
      show SRel P w M Ow x ((a.tmps.setIfInBounds t cv).getD t undef) _
      rw [this]; exact hx
    · rw [if_neg (fun e' => e (by injection e' with e'; exact e'.symm))] at hv
      have : (a.tmps.setIfInBounds s cv).getD t undef = a.tmps.getD t undef := by
        rw [Array.getD_eq_getD_getElem?, Array.getD_eq_getD_getElem?, Array.getElem?_setIfInBounds_ne (fun e' => e e'.symm)]
      show SRel P w M Ow v ((a.tmps.setIfInBounds s cv).getD t undef) _
      rw [this]; exact h.slot t v hv
  · intro κ v hk hv
    rw [lk_ne _ _ (fun e => by rw [← e] at hk; cases hk)] at hv
    exact h.blk κ v hk hv
def evBuildR (tab : Tab) (n : Nat) (ops : List Oper) (o : Oper) (m : Store) : Option (Nat × TypeId × Bool × List T × Nat) := match o.op, o.dst, gOk m ops o.guard with
  | .build t ⟨[(0, .tmp s)]⟩, some d, true => match Nat.blt d n, tlk tab t, lk m (.s s) with
    | true, some ⟨_, _, .struct [(0, 1)], [_]⟩, some (.raw e z xs) => some (s, e, z, xs, d)
    | _, _, _ => none
  | _, _, _ => none
theorem Sq.buildR {ops l : List Oper} {o : Oper} {s d : Nat} {e : TypeId} {z : Bool} {xs : List T} {K : Store → Prop} (hT : TabOk P tab) (h : evBuildR tab n ops o m = some (s, e, z, xs, d)) (k : Sq P G n ops l ((.s d, .rtup e z xs []) :: (.s s, .unk) :: m) K) : Sq P G n ops (o :: l) m K := by
  obtain ⟨dst, op, type, pos, after, guard⟩ := o
  unfold evBuildR at h
  simp only at h
  split at h
  · rename_i t s0 d' hgd
    split at h
    · rename_i sz by' z0 e0 zz xs0 hlt ht hx
      simp only [Option.some.injEq, Prod.mk.injEq] at h
      obtain ⟨rfl, rfl, rfl, rfl, rfl⟩ := h
      refine Sq.do hgd (fun Γ M Ow a w hr => ?_) k
      have hraw : RawRel P w M e0 zz xs0 (a.tmps.getD s0 undef) (Ow (.s s0) 0) := hr.slot s0 _ hx
      have hone : (a.tmps.getD s0 undef).oneCell' = true := isOwn_one (Ow := Ow) (x := .raw e0 zz xs0) hraw rfl
      have hcl := one_cells hone
      have hsw := hr.swapD (d := d') (Nat.lt_of_succ_le (Nat.le_of_ble_eq_true hlt)) hx (x := .rtup e0 zz xs0 []) rfl (cv := .agg #[a.tmps.getD s0 undef]) ⟨_, #[], .inr ⟨rfl, rfl⟩, hraw, rfl, fun i x u hx _ => by simp at hx⟩
      refine ⟨.agg #[a.tmps.getD s0 undef], w, ?_, hsw⟩
      obtain ⟨i, hi, _, _, _, ho, zv, hz, hzs⟩ := hT.info ht
      obtain ⟨fs, hu, hfl, hall⟩ := hT.struct ht rfl
      obtain ⟨z1, _⟩ := zsOk_all hzs ho
      have hzl : zv.cells.size = 1 := by have : zv.cells.toList.length = 1 := by rw [← z1]; rfl
                                         simpa using this
      obtain ⟨c0, hc0⟩ : ∃ c0, zv.cells = #[c0] := by
        have : zv.cells.toList.length = 1 := by simpa using hzl
        match hL : zv.cells.toList, this with
        | [c], _ => exact ⟨c, Array.toList_inj.1 hL⟩
      have hbuilt : P.built t [(0, a.tmps.getD s0 undef)] = some #[a.tmps.getD s0 undef] := by
        simp only [Program.built, hi, hu, hz, mapM_places hall]
        rw [← hfl, hc0]
        have hb : ∀ cv : Value, cv.cells = #[cv] → Instr.fill (fun i => (List.toArray [(0, 1)])[i]?) #[c0] [(0, cv)] = some #[cv] := by
          intro cv hcl
          simp [Instr.fill, hcl]
        exact hb _ hcl
      have hrun := run_build (P := P) w t #[(0, a.tmps.getD s0 undef)] #[a.tmps.getD s0 undef] hbuilt
      have ev : a.eval (.tmp s0) = a.tmps.getD s0 undef := rfl
      generalize a.tmps.getD s0 undef = cv at ev hrun ⊢
      simp [execOp, ev, hrun]
    · cases h
  · cases h
def evStoreR (tab : Tab) (n : Nat) (ops : List Oper) (o : Oper) (m : Store) : Option (Loc × TypeId × AV × Nat × TypeId × Bool × List T) := match o.op, o.dst, gOk m ops o.guard with
  | .store t (.tmp p) (.tmp s), none, true => match tlk tab t, lk m (.s p), lk m (.s s) with
    | some ⟨1, _, _, _⟩, some (.ptr κ 0), some (.rtup e z xs []) => match κ.isL, lk m κ, Nat.blt s n with
      | true, some (.blk ty [c]), true => some (κ, ty, c, s, e, z, xs)
      | _, _, _ => none
    | _, _, _ => none
  | _, _, _ => none
theorem Sq.storeR {ops l : List Oper} {o : Oper} {κ : Loc} {ty : TypeId} {c : AV} {s : Nat} {e : TypeId} {z : Bool} {xs : List T} {K : Store → Prop} (hT : TabOk P tab) (h : evStoreR tab n ops o m = some (κ, ty, c, s, e, z, xs))
    (k : Sq P G n ops l ((κ, .blk ty [.raw e z xs]) :: (.s s, .unk) :: m) K) : Sq P G n ops (o :: l) m K := by
  obtain ⟨dst, op, type, pos, after, guard⟩ := o
  unfold evStoreR at h
  simp only at h
  split at h
  · rename_i t p s0 hgd
    split at h
    · rename_i by' kind zs κ0 e0 zz xs0 ht hp hs
      split at h
      · rename_i ty0 c0 hL hκ hlt
        simp only [Option.some.injEq, Prod.mk.injEq] at h
        obtain ⟨rfl, rfl, rfl, rfl, rfl, rfl, rfl⟩ := h
        have hsn : s0 < n := Nat.lt_of_succ_le (Nat.le_of_ble_eq_true hlt)
        refine Sq.step (fr := []) ?_ (fun κ hk => nomatch hk) k
        rintro Γ a w hpn ⟨M, Ow, hr⟩
        rw [if_pos (wanted_of hgd hr)]
        refine OAct.of_skip (m := m) (m' := (κ0, .blk ty0 [.raw e0 zz xs0]) :: (.s s0, .unk) :: m) (fun Γ M Ow a w hr => ?_) Γ a w hpn ⟨M, Ow, hr⟩
        obtain ⟨b, hk, hb, e1⟩ := opK_ptr (x := .tmp p) (a := a) (o := Ow (.s p) 0) (v := .unk) (Γ := Γ) (rs := []) (hr.slot p _ hp)
        obtain ⟨ty1, cells1, b0, cs, e0', ho, hh, hs', hn, h1, hcs⟩ := hr.blk κ0 _ hk hκ
        obtain ⟨rfl, rfl⟩ : ty0 = ty1 ∧ [c0] = cells1 := by injection e0' with e1 e2; exact ⟨e1, e2⟩
        obtain rfl : b = b0 := by rw [hb] at ho; exact Option.some.inj ho
        have hv : SRel P w M Ow (.rtup e0 zz xs0 []) (a.tmps.getD s0 undef) (Ow (.s s0) 0) := hr.slot s0 _ hs
        obtain ⟨cv, cs2, ev, hraw, _, _⟩ := hv
        have ev : a.tmps.getD s0 undef = .agg #[cv] := (ev.resolve_left (fun h => h.2 rfl)).2
        have hone : cv.oneCell' = true := isOwn_one (Ow := Ow) (x := .raw e0 zz xs0) hraw rfl
        have hx : a.eval (.tmp s0) = .agg #[cv] := ev
        have hst := run_store_at (off := 0) hT ht hh (v := .agg #[cv]) rfl (by show 0 + 1 ≤ cs.size; rw [hs']; exact Nat.le_refl _) (by
          intro i u hu
          cases i with
          | zero => simp [Value.cells] at hu; subst hu; exact hone
          | succ i => simp [Value.cells] at hu)
        refine ⟨_, by simp only [execOp]; rw [e1, hx, Sem.run_bind, hst]; rfl, ?_⟩
        have hr1 := hr.slotv (s := s0) hsn (cv := cv) (x := .raw e0 zz xs0) hraw
        have hg1 : ({ a with tmps := a.tmps.setIfInBounds s0 cv } : Act).tmps.getD s0 undef = cv := by
          show (a.tmps.setIfInBounds s0 cv).getD s0 undef = cv
          rw [Array.getD_eq_getD_getElem?, Array.getElem?_setIfInBounds_self_of_lt (by rw [hr.size]; exact hsn)]; rfl
        have hg := hr1.givecell (κ := κ0) (ty := ty0) (cells := [c0]) (s := s0) (x := .raw e0 zz xs0) (off := 0) hL (by rw [lk_ne _ _ (fun e => by rw [← e] at hk; cases hk)]; exact hκ) rfl (by rw [lk_self]) hb hh hs' (by simp) (by rw [hg1]; exact hone)
        rw [hg1] at hg
        obtain ⟨M2, Ow2, hg⟩ := hg
        have hg2 := hg.slotv (s := s0) hsn (cv := a.tmps.getD s0 undef) (x := .unk) (VRel.unk _)
        have hback : ({ ({ a with tmps := a.tmps.setIfInBounds s0 cv } : Act) with tmps := (a.tmps.setIfInBounds s0 cv).setIfInBounds s0 (a.tmps.getD s0 undef) } : Act) = a := by
          have : (a.tmps.setIfInBounds s0 cv).setIfInBounds s0 (a.tmps.getD s0 undef) = a.tmps := by
            apply Array.ext_getElem?
            intro i
            by_cases e : i = s0
            · subst e
              rw [Array.getElem?_setIfInBounds_self_of_lt (by simp [hr.size]; exact hsn), Array.getD_eq_getD_getElem?]
              have : i < a.tmps.size := by rw [hr.size]; exact hsn
              simp [this]
            · rw [Array.getElem?_setIfInBounds_ne (fun e' => e e'.symm), Array.getElem?_setIfInBounds_ne (fun e' => e e'.symm)]
          cases a
          simp only at this ⊢
          rw [this]
        rw [hback] at hg2
        refine ⟨M2, Ow2, hg2.sub ?_⟩
        intro l v hl
        have hne : (Loc.s s0) ≠ κ0 := fun e => by rw [← e] at hk; cases hk
        by_cases e1 : κ0 = l
        · subst e1; rw [lk_self] at hl; rw [lk_ne _ _ hne, lk_self]; exact hl
        · rw [lk_ne _ _ e1] at hl
          by_cases e2 : Loc.s s0 = l
          · subst e2; rw [lk_self] at hl ⊢; exact hl
          · rw [lk_ne _ _ e2] at hl; rw [lk_ne _ _ e2, lk_ne _ _ e1, lk_ne _ _ e2, lk_ne _ _ e2]; exact hl
      · cases h
    · cases h
  · cases h
theorem DSq.blk2 {ops l : List Oper} {o : Oper} {rs : List (Loc × AV)} {κ : Loc} {s : Nat} {v u : AV} {m' : Store} {fs : List Fp} (hr : rdO m ops o = some rs)
    (hsq : ∀ (q : Store) (K : Store → Prop), K ((κ, v) :: (.s s, u) :: (rs ++ q)) → Sq P G n ops [o] (rs ++ q) K) (k : DSq P G n ops l ((κ, v) :: (.s s, u) :: m) fs m') : DSq P G n ops (o :: l) m (⟨[], rs, [(κ, v), (.s s, u)]⟩ :: fs) m' :=
  .cons o l m ⟨[], rs, [(κ, v), (.s s, u)]⟩ fs m' ⟨rfl, fun q _ => GStp.of fun K hK => hsq q K hK⟩ (rdO_sat hr) rfl k
end
end Go.Lg

set_option linter.unusedVariables false
set_option linter.unusedSimpArgs false
namespace Go.Lg.Tryz
open Go Go.Proofs Go.RowKit Go.Lib Go.Lg.Sem
def mixR (R : Rng) (i : Nat) : Rng := (R.take i).map List.reverse ++ R.drop i
theorem mixR_len (R : Rng) (i : Nat) : (mixR R i).length = R.length := by unfold mixR; simp; omega
theorem mixR_zero (R : Rng) : mixR R 0 = R := by unfold mixR; simp
theorem mixR_full (R : Rng) : mixR R R.length = R.map List.reverse := by unfold mixR; simp
theorem mixR_at {R : Rng} {i : Nat} {l : List Cmp} (h : R[i]? = some l) : (mixR R i)[i]? = some l := by
  have hb := (List.getElem?_eq_some_iff.1 h).1
  unfold mixR
  rw [List.getElem?_append_right (by simp; omega), List.getElem?_drop]
  simp only [List.length_map, List.length_take]
  rw [show i + (i - min i R.length) = i by omega]; exact h
theorem mixR_succ {R : Rng} {i : Nat} {l : List Cmp} (h : R[i]? = some l) : mixR R (i + 1) = (mixR R i).set i l.reverse := by
  have hb := (List.getElem?_eq_some_iff.1 h).1
  apply List.ext_getElem?
  intro k
  rw [List.getElem?_set]
  unfold mixR
  by_cases e : i = k
  · subst e
    rw [if_pos rfl, if_pos (by simp; omega), List.getElem?_append_left (by simp; omega), List.getElem?_map, List.getElem?_take_of_lt (by omega), h]; rfl
  · rw [if_neg e]
    rcases Nat.lt_or_ge k i with h2 | h2
    · rw [List.getElem?_append_left (by simp; omega), List.getElem?_append_left (by simp; omega), List.getElem?_map, List.getElem?_map, List.getElem?_take_of_lt (by omega), List.getElem?_take_of_lt (by omega)]
    · rw [List.getElem?_append_right (by simp; omega), List.getElem?_append_right (by simp; omega), List.getElem?_drop, List.getElem?_drop]
      simp only [List.length_map, List.length_take]
      rw [show i + 1 + (k - min (i + 1) R.length) = k by omega, show i + (k - min i R.length) = k by omega]
theorem any_rev (R : Rng) (p : Cmp → Bool) : (R.map List.reverse).any (fun l => l.all p) = R.any (fun l => l.all p) := by
  rw [List.any_map]
  congr 1
  funext l
  show l.reverse.all p = l.all p
  rw [List.all_reverse]
theorem any_turn (R : Rng) (k : Nat) (p : List Cmp → Bool) : (R.drop k ++ R.take k).any p = R.any p := by
  rw [List.any_append, Bool.or_comm, ← List.any_append, List.take_append_drop]
theorem all_turn (R : Rng) (k : Nat) (p : List Cmp → Bool) : (R.drop k ++ R.take k).all p = R.all p := by
  rw [List.all_append, Bool.and_comm, ← List.all_append, List.take_append_drop]
theorem turn_len (R : Rng) {k : Nat} (hk : k ≤ R.length) : (R.drop k ++ R.take k).length = R.length := by simp; omega
theorem right_turn (R : Rng) {k : Nat} (hk : k ≤ R.length) : rngRight ((R.drop k ++ R.take k).map List.reverse) = rngRight R := by
  unfold rngRight
  rw [List.length_map, turn_len R hk, List.all_map]
  congr 1
  rw [← all_turn R k]
  congr 1
  funext l
  show (sizedB l.reverse.length && l.reverse.all cmpRight) = _
  rw [List.length_reverse, List.all_reverse]
theorem has_turn (R : Rng) {k : Nat} (hk : k ≤ R.length) (v : Ver) : hasR ((R.drop k ++ R.take k).map List.reverse) v = hasR R v := by
  unfold hasR
  rw [right_turn R hk, any_rev, any_turn]
theorem has_twice (R : Rng) {l : List Cmp} (hl : l ∈ R) (hr : rngRight R = true) (h8 : R.length ≠ 8) (v : Ver) : hasR (R ++ [l]) v = hasR R v := by
  have hall : (R ++ [l]).all (fun l => sizedB l.length && l.all cmpRight) = true := by
    unfold rngRight at hr
    rw [Bool.and_eq_true, List.all_eq_true] at hr
    rw [List.all_eq_true]
    intro x hx
    rcases List.mem_append.1 hx with h | h
    · exact hr.1 x h
    · rw [List.mem_singleton] at h; subst h; exact hr.1 _ hl
  have hsz : sizedB (R ++ [l]).length = true := by
    unfold rngRight at hr
    rw [Bool.and_eq_true] at hr
    have := hr.2
    unfold sizedB at *
    simp only [Bool.and_eq_true, decide_eq_true_eq, List.length_append, List.length_singleton] at *
    omega
  have hr2 : rngRight (R ++ [l]) = true := by unfold rngRight; rw [hall, hsz]; rfl
  unfold hasR
  rw [hr, hr2, List.any_append]
  congr 2
  cases h : R.any (fun l => l.all fun c => hasC c v)
  · rw [Bool.false_or]
    rw [List.any_eq_false] at h
    simp only [List.any_cons, List.any_nil, Bool.or_false]
    have := h l hl
    simpa using this
  · rw [Bool.true_or]
set_option maxRecDepth 8192 in
set_option maxHeartbeats 1600000 in
theorem RangesLists_ok (r : Rng) (z : Int) (v : Ver) : Fn Tryz.prog Gw 6 [.tr (rngT r), int z, .tr (Ver.t v)] [] (· = bool true) := by
  refine Fn.of tab_ok Tryz.func6 rfl (by decide) (by simp [Tryz.f6]) rfl (fun κ v h => by cases h) Gw.below ?_
  repeat' (first|refine zS ?_|refine zR ?_|refine zE tab_ok rfl rfl ?_|refine zN ?_|(refine zG rfl rfl (fun _ => ?_) fun _ => ?_)<;>refine zE tab_ok rfl rfl ?_|(refine zC rfl (fun _ => ?_) fun _ => ?_)<;>try (rename_i h; cases h; done)|refine zB ?_|refine zK ?_|refine zZ ⟨_, rfl, ?_⟩)
  refine Sq.callv rfl (anchor_ok) ?_
  repeat' (first|refine zS ?_|refine zR ?_|refine zE tab_ok rfl rfl ?_|refine zN ?_|(refine zG rfl rfl (fun _ => ?_) fun _ => ?_)<;>refine zE tab_ok rfl rfl ?_|(refine zC rfl (fun _ => ?_) fun _ => ?_)<;>try (rename_i h; cases h; done)|refine zB ?_|refine zK ?_|refine zZ ⟨_, rfl, ?_⟩)
  refine zL rfl (plain_ok r) ?_
  rintro _ ⟨q0, rfl, hq⟩
  repeat' (first|refine zS ?_|refine zR ?_|refine zE tab_ok rfl rfl ?_|refine zN ?_|(refine zG rfl rfl (fun _ => ?_) fun _ => ?_)<;>refine zE tab_ok rfl rfl ?_|(refine zC rfl (fun _ => ?_) fun _ => ?_)<;>try (rename_i h; cases h; done)|refine zB ?_|refine zK ?_|refine zZ ⟨_, rfl, ?_⟩)
  · rfl
  rename_i hpl
  have hpl : plainR 20 r = true := by simpa using hpl
  clear hq
  obtain ⟨hok, hlen, hll⟩ := plain_ok_of hpl (by omega)
  have hR := rngRight_ok r hok (by omega)
  cases hr : rngRight r
  · rw [hr] at hR
    refine Sq.callv rfl (hR) ?_
    repeat' (first|refine zS ?_|refine zR ?_|refine zE tab_ok rfl rfl ?_|refine zN ?_|(refine zG rfl rfl (fun _ => ?_) fun _ => ?_)<;>refine zE tab_ok rfl rfl ?_|(refine zC rfl (fun _ => ?_) fun _ => ?_)<;>try (rename_i h; cases h; done)|refine zB ?_|refine zK ?_|refine zZ ⟨_, rfl, ?_⟩)
    rfl
  rw [hr] at hR
  refine Sq.callv rfl (hR) ?_
  repeat' (first|refine zS ?_|refine zR ?_|refine zE tab_ok rfl rfl ?_|refine zN ?_|(refine zG rfl rfl (fun _ => ?_) fun _ => ?_)<;>refine zE tab_ok rfl rfl ?_|(refine zC rfl (fun _ => ?_) fun _ => ?_)<;>try (rename_i h; cases h; done)|refine zB ?_|refine zK ?_|refine zZ ⟨_, rfl, ?_⟩)
  · rfl
  · rfl
  rename_i g1 g2
  have g1 := of_decide_eq_false g1
  have g2 := of_decide_eq_false g2
  have hv : v.ok := by
    show v.p.size ≤ 1000000000
    omega
  have hsz : 1 ≤ r.length ∧ r.length ≤ 8 := by
    unfold rngRight at hr
    rw [Bool.and_eq_true] at hr
    have := hr.2
    unfold sizedB at this
    simp only [Bool.and_eq_true, decide_eq_true_eq] at this
    omega
  obtain ⟨zn, rfl⟩ : ∃ zn : Nat, z = zn := ⟨z.toNat, by omega⟩
  obtain ⟨k, hk⟩ : ∃ k : Nat, k = zn % r.length := ⟨_, rfl⟩
  have hkl : k < r.length := by rw [hk]; exact Nat.mod_lt _ (by omega)
  have hH := hasR_ok r v hok (by omega) hv
  have hok2 : Rng.ok ((r.drop k ++ r.take k).map List.reverse) := by
    intro l hl
    obtain ⟨l', hl', rfl⟩ := List.mem_map.1 hl
    have hm : l' ∈ r := by
      rcases List.mem_append.1 hl' with h | h
      · exact List.mem_of_mem_drop h
      · exact List.mem_of_mem_take h
    obtain ⟨h1, h2⟩ := hok l' hm
    exact ⟨by rw [List.length_reverse]; exact h1, fun c hc => h2 c (List.mem_reverse.1 hc)⟩
  have hH1 := hasR_ok ((r.drop k ++ r.take k).map List.reverse) v hok2 (by rw [List.length_map, turn_len r (by omega)]; omega) hv
  rw [has_turn r (by omega)] at hH1
  obtain ⟨lk', hlk⟩ : ∃ l, r[k]? = some l := ⟨_, List.getElem?_eq_getElem hkl⟩
  have hok3 : Rng.ok (r ++ [lk']) := by
    intro l hl
    rcases List.mem_append.1 hl with h | h
    · exact hok l h
    · rw [List.mem_singleton] at h; subst h; exact hok _ (List.mem_of_getElem? hlk)
  have hH2 := fun h8 => has_twice r (List.mem_of_getElem? hlk) hr h8 v
  have hH3 := hasR_ok (r ++ [lk']) v hok3 (by simp; omega) hv
  have hlke : (r.map cmpsT)[((k : Nat) : Int).toNat]? = some (cmpsT lk') := by simp [hlk]
  have hRl := turn_len r (show k ≤ r.length by omega)
  have hmem : ∀ l, l ∈ r.drop k ++ r.take k → l ∈ r := by
    intro l hl
    rcases List.mem_append.1 hl with h | h
    · exact List.mem_of_mem_drop h
    · exact List.mem_of_mem_take h
  have hp1 : ((r.map cmpsT).drop k).take ((r.map cmpsT).length - k) = (r.drop k).map cmpsT := by
    rw [List.map_drop, List.take_of_length_le (by rw [List.length_drop]; exact Nat.le_refl _)]
  have hp2 : ((r.map cmpsT).drop 0).take (k - 0) = (r.take k).map cmpsT := by rw [List.drop_zero, Nat.sub_zero, List.map_take]
  refine Sq.div (c := ((k : Nat) : Int)) rfl (by rw [List.length_map]; omega) (by rw [if_neg (by decide), List.length_map, Int.tmod_eq_emod_of_nonneg (by omega), hk]; push_cast; rfl) ?_
  repeat' (first|refine zS ?_|refine zR ?_|refine zE tab_ok rfl rfl ?_|refine zN ?_|(refine zG rfl rfl (fun _ => ?_) fun _ => ?_)<;>refine zE tab_ok rfl rfl ?_|(refine zC rfl (fun _ => ?_) fun _ => ?_)<;>try (rename_i h; cases h; done)|refine zB ?_|refine zK ?_|refine zZ ⟨_, rfl, ?_⟩)
  refine Tr.drawn ( zO rfl (fun q K hK => Sq.lit0R tab_ok rfl (zN hK)) <| zD tab_ok rfl rfl <| zD tab_ok rfl rfl <| zD tab_ok rfl rfl <| zO rfl (fun q K hK => Sq.part tab_ok rfl (fun x hx => by obtain ⟨a, _, rfl⟩ := List.mem_map.1 hx; rfl) (by show (0 : Int) ≤ ((k : Nat) : Int); omega) (by show ((k : Nat) : Int) ≤ ((r.map cmpsT).length : Int); rw [List.length_map]; omega) (Int.le_refl _) (Sq.re (congrArg (fun l => AV.tr (.ls l)) hp1) (zN hK))) <| DSq.two rfl (fun q K hK => Sq.appendR tab_ok rfl (fun y hy => by obtain ⟨a, _, rfl⟩ := List.mem_map.1 hy; rfl) (by simp; omega) (zN hK)) <| zD tab_ok rfl rfl <| zD tab_ok rfl rfl <| zD tab_ok rfl rfl <| zO rfl (fun q K hK => Sq.part tab_ok rfl (fun x hx => by obtain ⟨a, _, rfl⟩ := List.mem_map.1 hx; rfl) (Int.le_refl _) (by show (0 : Int) ≤ ((k : Nat) : Int); omega) (by show ((k : Nat) : Int) ≤ ((r.map cmpsT).length : Int); rw [List.length_map]; omega) (Sq.re (congrArg (fun l => AV.tr (.ls l)) hp2) (zN hK))) <| DSq.two rfl (fun q K hK => Sq.appendR tab_ok rfl (fun y hy => by obtain ⟨a, _, rfl⟩ := List.mem_map.1 hy; rfl) (by simp; omega) (zN hK)) <| DSq.two rfl (fun q K hK => Sq.buildR tab_ok rfl (zN hK)) <| zD tab_ok rfl rfl <| DSq.blk2 rfl (fun q K hK => Sq.storeR tab_ok rfl (zN hK)) <| DSq.nil _) mix_ok rfl ?_
  refine zS ?_
  refine Tr.sub (m' := [(.s 3, .ptr (.l 3) 0), (.l 3, .blk 25 [.tr (.ls (r.map cmpsT))]), (.s 5, .ptr (.l 5) 0), (.l 5, .blk 38 [int v.a, int v.b, int v.c, .tr (.sc (.string v.p))]), (.s 9, int k), (.s 10, .ptr (.l 10) 0), (.l 10, .blk 25 [.raw 46 true ((r.drop k ++ r.take k).map cmpsT)])]) ⟨rfl, rfl, rfl, rfl, rfl, rfl, by rw [List.map_append]; rfl, trivial⟩ ?_
  generalize hR0 : r.drop k ++ r.take k = R at *
  refine Tr.thawC tab_ok (.l 10) (.l 1000) 0 rfl rfl rfl (by intro h; rw [List.map_eq_nil_iff] at h; rw [h] at hRl; simp at hRl; omega) rfl (by decide) rfl rfl rfl ?_
  intro cap hcap
  rw [List.length_map, hRl] at hcap
  rw [flat_one (by intro x hx; obtain ⟨a, _, rfl⟩ := List.mem_map.1 hx; rfl), List.length_map, hRl]
  generalize List.replicate ((cap - r.length) * 1) AV.unk = U
  repeat' (first|refine zS ?_|refine zR ?_|refine zE tab_ok rfl rfl ?_|refine zN ?_|(refine zG rfl rfl (fun _ => ?_) fun _ => ?_)<;>refine zE tab_ok rfl rfl ?_|(refine zC rfl (fun _ => ?_) fun _ => ?_)<;>try (rename_i h; cases h; done)|refine zB ?_|refine zK ?_|refine zZ ⟨_, rfl, ?_⟩)
  refine Sq.lenS tab_ok rfl ?_
  repeat' (first|refine zS ?_|refine zR ?_|refine zE tab_ok rfl rfl ?_|refine zN ?_|(refine zG rfl rfl (fun _ => ?_) fun _ => ?_)<;>refine zE tab_ok rfl rfl ?_|(refine zC rfl (fun _ => ?_) fun _ => ?_)<;>try (rename_i h; cases h; done)|refine zB ?_|refine zK ?_|refine zZ ⟨_, rfl, ?_⟩)
  refine Tr.loopS (fun i : Nat => [(.s 3, .ptr (.l 3) 0), (.l 3, .blk 25 [.tr (.ls (r.map cmpsT))]), (.s 5, .ptr (.l 5) 0), (.l 5, .blk 38 [int v.a, int v.b, int v.c, .tr (.sc (.string v.p))]), (.s 9, int k), (.s 10, .ptr (.l 10) 0), (.l 10, .blk 25 [.sl (.l 1000) r.length cap]), (.l 1000, .blk 46 (((mixR R i).map cmpsT).map AV.tr ++ U)), (.s 58, .sl (.l 1000) r.length cap), (.s 59, int r.length), (.s 60, int i)]) (fun i => r.length - i) (fun i => i ≤ r.length)
    0 (by omega) (Sub.app (l := [_, _, _, _, _, _, _, _, _, _, _]) (H := []) ⟨rfl, rfl, rfl, rfl, rfl, rfl, rfl, by rw [mixR_zero]; rfl, rfl, rfl, rfl, trivial⟩ (fun κ v h => nomatch h)) ?_
  rintro i hi
  repeat' (first|refine zS ?_|refine zR ?_|refine zE tab_ok rfl rfl ?_|refine zN ?_|(refine zG rfl rfl (fun _ => ?_) fun _ => ?_)<;>refine zE tab_ok rfl rfl ?_|(refine zC rfl (fun _ => ?_) fun _ => ?_)<;>try (rename_i h; cases h; done)|refine zB ?_|refine zK ?_|refine zZ ⟨_, rfl, ?_⟩)
  · rename_i h2
    have hlt : i < r.length := by have := of_decide_eq_true h2; omega
    obtain ⟨l, hli⟩ : ∃ l, R[i]? = some l := ⟨_, List.getElem?_eq_getElem (by omega)⟩
    obtain ⟨hl1, _⟩ := hok l (hmem l (List.mem_of_getElem? hli))
    have hat := mixR_at hli
    have hsc := mixR_succ hli
    have hml := mixR_len R i
    have hcell : (((mixR R i).map cmpsT).map AV.tr ++ U)[((i : Nat) : Int).toNat * 1]? = some (.tr (cmpsT l)) := by
      rw [Int.toNat_natCast, Nat.mul_one, List.getElem?_append_left (by rw [List.length_map, List.length_map]; omega), List.getElem?_map, List.getElem?_map, hat]; rfl
    have hset : (((mixR R i).map cmpsT).map AV.tr ++ U).set (((i : Nat) : Int).toNat * 1) (.tr (cmpsT l.reverse)) = ((mixR R (i + 1)).map cmpsT).map AV.tr ++ U := by
      rw [Int.toNat_natCast, Nat.mul_one, List.set_append_left _ _ (by rw [List.length_map, List.length_map]; omega), hsc, List.map_set, List.map_set]
    generalize ((mixR R i).map cmpsT).map AV.tr ++ U = C at *
    have hltC := (List.getElem?_eq_some_iff.1 hcell).1
    refine Sq.indexS (j := ((i : Nat) : Int)) (len := r.length) tab_ok rfl (by omega) (by omega) ?_
    refine Sq.loadS (v := .tr (cmpsT l)) tab_ok rfl hcell ?_
    repeat' (first|refine zS ?_|refine zR ?_|refine zE tab_ok rfl rfl ?_|refine zN ?_|(refine zG rfl rfl (fun _ => ?_) fun _ => ?_)<;>refine zE tab_ok rfl rfl ?_|(refine zC rfl (fun _ => ?_) fun _ => ?_)<;>try (rename_i h; cases h; done)|refine zB ?_|refine zK ?_|refine zZ ⟨_, rfl, ?_⟩)
    refine Tr.loopS (fun j : Nat => [(.s 3, .ptr (.l 3) 0), (.l 3, .blk 25 [.tr (.ls (r.map cmpsT))]), (.s 5, .ptr (.l 5) 0), (.l 5, .blk 38 [int v.a, int v.b, int v.c, .tr (.sc (.string v.p))]), (.s 9, int k), (.s 10, .ptr (.l 10) 0), (.l 10, .blk 25 [.sl (.l 1000) r.length cap]), (.l 1000, .blk 46 C), (.s 58, .sl (.l 1000) r.length cap), (.s 59, int r.length), (.s 60, int i), (.s 11, int i), (.s 12, .tr (cmpsT l)), (.s 13, .own 48 ((l.reverse.take j).map Cmp.t)), (.s 66, int (l.map Cmp.t).length), (.s 67, int j)]) (fun j => l.length - j) (fun j => j ≤ l.length)
      0 (by omega) (Sub.app (l := [_, _, _, _, _, _, _, _, _, _, _, _, _, _, _, _]) (H := []) ⟨rfl, rfl, rfl, rfl, rfl, rfl, rfl, rfl, rfl, rfl, rfl, rfl, rfl, rfl, rfl, rfl, trivial⟩ (fun κ v h => nomatch h)) ?_
    rintro j hj
    repeat' (first|refine zS ?_|refine zR ?_|refine zE tab_ok rfl rfl ?_|refine zN ?_|(refine zG rfl rfl (fun _ => ?_) fun _ => ?_)<;>refine zE tab_ok rfl rfl ?_|(refine zC rfl (fun _ => ?_) fun _ => ?_)<;>try (rename_i h; cases h; done)|refine zB ?_|refine zK ?_|refine zZ ⟨_, rfl, ?_⟩)
    · rename_i h3
      have h3 : decide ((j : Int) < ((l.map Cmp.t).length : Int)) = true := h3
      have hlj : j < l.length := by simp only [List.length_map, decide_eq_true_eq] at h3; omega
      obtain ⟨x, hx⟩ : ∃ x, l[l.length - 1 - j]? = some x := ⟨_, List.getElem?_eq_getElem (by omega)⟩
      have hw : IntKind.i64.wrap (IntKind.i64.wrap (((l.map Cmp.t).length : Int) - 1) - (j : Int)) = ((l.length - 1 - j : Nat) : Int) := by
        rw [List.length_map, Go.IntWalk.i64_in ((l.length : Int) - 1) ⟨by omega, by omega⟩, Go.IntWalk.i64_in _ ⟨by omega, by omega⟩]; omega
      have hxr : l.reverse[j]? = some x := by rw [List.getElem?_reverse hlj]; exact hx
      have htk : l.reverse.take (j + 1) = l.reverse.take j ++ [x] := by rw [List.take_add_one, hxr]; rfl
      refine zI (x := Cmp.t x) tab_ok rfl (by rw [hw]; omega) (by rw [hw, Int.toNat_natCast, List.getElem?_map, hx]; rfl) rfl ?_
      repeat' (first|refine zS ?_|refine zR ?_|refine zE tab_ok rfl rfl ?_|refine zN ?_|(refine zG rfl rfl (fun _ => ?_) fun _ => ?_)<;>refine zE tab_ok rfl rfl ?_|(refine zC rfl (fun _ => ?_) fun _ => ?_)<;>try (rename_i h; cases h; done)|refine zB ?_|refine zK ?_|refine zZ ⟨_, rfl, ?_⟩)
      refine Sq.append tab_ok rfl (fun y hy => by simp only [List.mem_singleton] at hy; subst hy; rfl) (by simp; omega) ?_
      repeat' (first|refine zS ?_|refine zR ?_|refine zE tab_ok rfl rfl ?_|refine zN ?_|(refine zG rfl rfl (fun _ => ?_) fun _ => ?_)<;>refine zE tab_ok rfl rfl ?_|(refine zC rfl (fun _ => ?_) fun _ => ?_)<;>try (rename_i h; cases h; done)|refine zB ?_|refine zK ?_|refine zZ ⟨_, rfl, ?_⟩)
      exact ⟨j + 1, by omega, by omega, Sub.app (l := [_, _, _, _, _, _, _, _, _, _, _, _, _, _, _, _]) (H := []) ⟨rfl, rfl, rfl, rfl, rfl, rfl, rfl, rfl, rfl, rfl, rfl, rfl, rfl, by rw [htk, List.map_append]; rfl, rfl, congrArg some (wrapz (by omega) (by omega) (by omega)), trivial⟩ (fun κ v h => nomatch h)⟩
    · rename_i h3
      have h3 : decide ((j : Int) < ((l.map Cmp.t).length : Int)) = false := h3
      have hge : j = l.length := by simp only [List.length_map, decide_eq_false_iff_not] at h3; omega
      subst hge
      rw [List.take_of_length_le (by rw [List.length_reverse]; exact Nat.le_refl _)]
      refine Tr.exit ?_
      repeat' (first|refine zS ?_|refine zR ?_|refine zE tab_ok rfl rfl ?_|refine zN ?_|(refine zG rfl rfl (fun _ => ?_) fun _ => ?_)<;>refine zE tab_ok rfl rfl ?_|(refine zC rfl (fun _ => ?_) fun _ => ?_)<;>try (rename_i h; cases h; done)|refine zB ?_|refine zK ?_|refine zZ ⟨_, rfl, ?_⟩)
      refine Sq.indexS (j := ((i : Nat) : Int)) (len := r.length) tab_ok rfl (by omega) (by omega) ?_
      refine Sq.storeS tab_ok rfl hltC ?_
      repeat' (first|refine zS ?_|refine zR ?_|refine zE tab_ok rfl rfl ?_|refine zN ?_|(refine zG rfl rfl (fun _ => ?_) fun _ => ?_)<;>refine zE tab_ok rfl rfl ?_|(refine zC rfl (fun _ => ?_) fun _ => ?_)<;>try (rename_i h; cases h; done)|refine zB ?_|refine zK ?_|refine zZ ⟨_, rfl, ?_⟩)
      exact ⟨i + 1, by omega, by omega, Sub.app (l := [_, _, _, _, _, _, _, _, _, _, _]) (H := []) ⟨rfl, rfl, rfl, rfl, rfl, rfl, rfl, by rw [← hset]; rfl, rfl, rfl, congrArg some (wrapz (by omega) (by omega) (by omega)), trivial⟩ (fun κ v h => nomatch h)⟩
  rename_i h2
  have hge : i = r.length := by have := of_decide_eq_false h2; omega
  subst hge
  rw [show mixR R r.length = R.map List.reverse by rw [← hRl]; exact mixR_full R]
  refine Tr.exit ?_
  refine Tr.turn (fun Γ a w h => RelX.freezeC (κ0 := .l 10) (κ := .l 1000) (off := 0) (len := r.length) (cap := cap) (es := 1) (xs := (R.map List.reverse).map cmpsT) (cells := ((R.map List.reverse).map cmpsT).map AV.tr ++ U) h rfl rfl rfl rfl rfl rfl (by rw [List.length_map, List.length_map]; exact hRl) (by rw [List.length_append, List.length_map, List.length_map, List.length_map]; omega) (by intro x hx; obtain ⟨a, _, rfl⟩ := List.mem_map.1 hx; rfl) (fun i j x y hx hy => by
    obtain ⟨hi, rfl⟩ := List.getElem?_eq_some_iff.1 hx
    have hcl : (((R.map List.reverse).map cmpsT)[i]).cells = [((R.map List.reverse).map cmpsT)[i]] := by rw [List.getElem_map]; rfl
    rw [hcl] at hy
    have hj : j = 0 := by
      rcases Nat.eq_zero_or_pos j with h | h
      · exact h
      · rw [List.getElem?_eq_none (by simp; omega)] at hy; cases hy
    subst hj
    obtain rfl := Option.some.inj hy
    refine ⟨.tr _, ?_, rfl⟩
    rw [Nat.mul_one, Nat.add_zero, List.getElem?_append_left (by simpa using hi), List.getElem?_map, hx]; rfl)) ?_
  generalize R.map List.reverse = RT at *
  cases hb : hasR r v
  all_goals
    rw [hb] at hH hH1 hH2
    repeat' (first|refine zS ?_|refine zR ?_|refine zE tab_ok rfl rfl ?_|refine zN ?_|(refine zG rfl rfl (fun _ => ?_) fun _ => ?_)<;>refine zE tab_ok rfl rfl ?_|(refine zC rfl (fun _ => ?_) fun _ => ?_)<;>try (rename_i h; cases h; done)|refine zB ?_|refine zK ?_|refine zZ ⟨_, rfl, ?_⟩)
    refine Tr.drawn ( zD tab_ok rfl rfl <| zD tab_ok rfl rfl <| DSq.call rfl (fun _ => rfl) (hH1) <| zD tab_ok rfl rfl <| zD tab_ok rfl rfl <| DSq.call rfl (fun _ => rfl) (hH) <| zD tab_ok rfl rfl <| DSq.nil _) mix_ok rfl ?_
    repeat' (first|refine zS ?_|refine zR ?_|refine zE tab_ok rfl rfl ?_|refine zN ?_|(refine zG rfl rfl (fun _ => ?_) fun _ => ?_)<;>refine zE tab_ok rfl rfl ?_|(refine zC rfl (fun _ => ?_) fun _ => ?_)<;>try (rename_i h; cases h; done)|refine zB ?_|refine zK ?_|refine zZ ⟨_, rfl, ?_⟩)
    · rfl
    rename_i h8
    have h8 : ((((r.map cmpsT).length : Nat) : Int) == 8) = false := h8
    rw [List.length_map, beq_eq_false_iff_ne] at h8
    rw [hH2 (by omega), show rngT (r ++ [lk']) = .ag [.ls (r.map cmpsT ++ [cmpsT lk'])] by show T.ag [.ls ((r ++ [lk']).map cmpsT)] = _; rw [List.map_append]; rfl] at hH3
    refine Tr.drawn ( zD tab_ok rfl rfl <| zD tab_ok rfl rfl <| zD tab_ok rfl rfl <| DSq.two rfl (fun q K hK => Sq.append tab_ok rfl (fun y hy => by obtain ⟨a, _, rfl⟩ := List.mem_map.1 hy; rfl) (by simp; omega) (zN hK)) <| zD tab_ok rfl rfl <| zD tab_ok rfl rfl <| zD tab_ok rfl rfl <| zO rfl (fun q K hK => zI (x := cmpsT lk') tab_ok rfl (by omega) (hlke) rfl (zN hK)) <| zD tab_ok rfl rfl <| zD tab_ok rfl rfl <| DSq.two rfl (fun q K hK => Sq.append tab_ok rfl (fun y hy => by simp only [List.mem_singleton] at hy; subst hy; rfl) (by simp; omega) (zN hK)) <| zD tab_ok rfl rfl <| zD tab_ok rfl rfl <| zD tab_ok rfl rfl <| DSq.nil _) mix_ok rfl ?_
    repeat' (first|refine zS ?_|refine zR ?_|refine zE tab_ok rfl rfl ?_|refine zN ?_|(refine zG rfl rfl (fun _ => ?_) fun _ => ?_)<;>refine zE tab_ok rfl rfl ?_|(refine zC rfl (fun _ => ?_) fun _ => ?_)<;>try (rename_i h; cases h; done)|refine zB ?_|refine zK ?_|refine zZ ⟨_, rfl, ?_⟩)
    refine Tr.drawn ( zD tab_ok rfl rfl <| zD tab_ok rfl rfl <| DSq.call rfl (fun _ => rfl) (hH3) <| zD tab_ok rfl rfl <| zD tab_ok rfl rfl <| DSq.call rfl (fun _ => rfl) (hH) <| zD tab_ok rfl rfl <| zD tab_ok rfl rfl <| DSq.nil _) mix_ok rfl ?_
    repeat' (first|refine zS ?_|refine zR ?_|refine zE tab_ok rfl rfl ?_|refine zN ?_|(refine zG rfl rfl (fun _ => ?_) fun _ => ?_)<;>refine zE tab_ok rfl rfl ?_|(refine zC rfl (fun _ => ?_) fun _ => ?_)<;>try (rename_i h; cases h; done)|refine zB ?_|refine zK ?_|refine zZ ⟨_, rfl, ?_⟩)
    rfl
end Go.Lg.Tryz

set_option linter.unusedSimpArgs false
set_option linter.unusedVariables false
namespace Go.Lg.Tryz
open Go Go.Proofs Go.Proofs.YtckeeefeiljamaaGreatDoor Go.ChangeShapes Go.WideShapes Go.ChangeAt Go.RowKit Go.Joins Go.Lg.Sem
def theLaid : List (String × DataW Unit) := Rows.rangesParsesRow.laid
theorem own : ownKnob Tryz.prog.godebug = none := by kernel_rfl
theorem laidOut : laidOutB Tryz.prog = true := by kernel_rfl
def firstCells : Array Value := match Go.Pinned.utf8First with
  | .agg l => (l.map fun | .lit (.int k n) => Value.int k n | _ => undef).toArray
  | _ => #[]
noncomputable def laidWorld (os : Os) : World :=
  let w0 := World.doorLaid Tryz.prog 72 os
  { w0 with heap := w0.heap.modify 0 fun
      | .cells _ t frozen => .cells firstCells t frozen
      | o => o }
set_option maxRecDepth 100000 in
theorem laidWorld_met (os : Os) (args : Array Value) : laidMetH Tryz.prog theLaid ((laidWorld os).forCall (fun _ _ => 0) ⟨#[], args, []⟩).memory :=
  laidMetH_of_parts3 (fuel := 8) (laidMet_of_run' 8 (by kernel_rfl) (by kernel_rfl)) (by kernel_rfl) (by kernel_rfl)
set_option maxRecDepth 100000 in
theorem laidWorld_shaped (os : Os) (args : Array Value) : ((laidWorld os).forCall (fun _ _ => 0) ⟨#[], args, []⟩).Shaped Tryz.prog :=
  World.shaped_of_RefB (by kernel_rfl) (by kernel_rfl)
theorem gw_of {W : World} (hs : W.ShapedOpen Tryz.prog) (h : laidMetH Tryz.prog theLaid W) : Gw W := by
  rw [MakeChecks.laidMetH_plain _ _ _ (by kernel_rfl)] at h
  have h2 : laidMet Tryz.prog (("internal/strconv.uint64pow10", Lib.tabData .u64 Lib.pow10Tab) :: theLaid.drop 3) W := h.tail.tail
  have ht := Lib.tabIs_of_head tab_at (t := 177) (e := 158) (n := 20) (by kernel_rfl) Tryz.underlying177 Tryz.underlying158 (by kernel_rfl) (by kernel_rfl) h2
  obtain ⟨m, hm⟩ := cell_of_shapedOpen_int (g := 2) (zero := #[.int .i64 0]) (t := 3) hs (of_decide_eq_true (by kernel_rfl)) (by kernel_rfl) rfl (by kernel_rfl) (by kernel_rfl) Tryz.underlying3
  have hbig : 6 ≤ W.heap.size := by
    have := ht
    unfold Lib.TabIs World.var? at this
    rw [tab_at, Option.bind_some] at this
    cases hb : W.heap[5]? with
    | none => rw [hb] at this; cases this
    | some o => have := (Array.getElem?_eq_some_iff.1 hb).1; omega
  exact ⟨⟨m, hm⟩, ht, hbig⟩
theorem returns_both {H : Type} {enc : TypeId × Value → H} {a : Assume} {C : Checked} {os : Os} {f : FuncId} {fn : Func} {s : ChangeSpec} {conds : List PathCond} {apart fresh handsOn again : Bool} {X : World → Array Value → Prop}
    (hX : ∀ (w w' : World) (args : Array Value), w.heap = w'.heap → X w args → X w' args)
    (own : ownKnob C.prog.godebug = none) (started : os.Started) (noInit : C.prog.inits.idxOf? f = none) (hfn : C.prog.funcs[f]? = some fn)
    (witness : ∃ (w : World) (tape : Tape) (i : Input), w.os = os ∧ (w.forCall tape i).Shaped C.prog ∧ i.vars = [] ∧ Input.okWide C.prog (w.forCall tape i) .any w.heap.size f i ∧
      ((s.pre enc C.prog fn conds apart (w.forCall tape i).memory i.args ∧ X (w.forCall tape i).memory i.args) ∧ sizedMet enc C.prog fn (OpenSpec.ofChange s) apart (w.forCall tape i).memory i.args) ∧ a.holds C.prog (lone (Frame.enter C.prog f i.args .normal) [] (w.forCall tape i)))
    (contract : ∀ (W : World) (base : Nat) (args : Array Value) (ds gs : List (DataW H)) (before : List MemPlace),
      (∀ (j : Nat) t v, fn.params[j]? = some t → args[j]? = some v → Value.okWide C.prog W .any base t v) →
      DataW.Whole enc C.prog fn.params.toList s.vars apart W args.toList ds gs before →
      (DataW.weightsEach C.prog (fn.params.toList ++ s.plain.varTypes C.prog) (ds ++ gs)).all (· ≤ reachBytes) = true → X W args → W.ShapedOpen C.prog →
      Calls C.prog f args W fun e W' => ∃ v, e = .returned v ∧ s.post enc C.prog fn apart fresh handsOn again W args v W') :
    ReturnsInHanded a C os f .any (fun w args => (s.pre enc C.prog fn conds apart w args ∧ X w args) ∧ sizedMet enc C.prog fn (OpenSpec.ofChange s) apart w args) (s.post enc C.prog fn apart fresh handsOn again) := by
  refine returnsInHanded_of_calls own started noInit witness ?_
  intro w tape i _ hsh _ hok hpre hholds
  obtain ⟨_, _, _, fn', hfn', _, _, _, _, hval⟩ := hok
  obtain rfl := Option.some.inj (hfn'.symm.trans hfn)
  obtain ⟨⟨⟨ds, gs, before, hw, hc⟩, hx⟩, hz⟩ := hpre
  have hw' := DataW.Whole.of_heap (w' := w.forCall tape i) (by rfl) hw
  refine (contract (w.forCall tape i) w.heap.size i.args ds gs before hval hw' (hz.weights hw) (hX _ _ _ (by rfl) hx) hsh).mono fun e W' ⟨v, he, hp⟩ => ?_
  subst he
  exact ChangeSpec.post_blind hp
section
variable {H : Type} {enc : TypeId × Value → H} {W : World}
theorem stays {t : TypeId} (hr : (Tryz.prog).readableRec t = true) (hrow : t < (Tryz.prog).types.size) {W' : World} {v : Value} {d : DataW H} {p : List MemPlace} (h : DataW.Trod enc Tryz.prog W 0 (fun _ => true) true t v d p) (hb : Below W.heap.size W W') (hlt : ∀ x ∈ p, x.block < W.heap.size) :
    DataW.Trod enc Tryz.prog W' 0 (fun b => decide (b < W.heap.size)) true t v d p := hb.trod laidOut hr hrow h hlt
theorem opens_ver : Opens enc Tryz.prog W 38 (fun v : Ver => [.sc (.int .i64 v.a), .sc (.int .i64 v.b), .sc (.int .i64 v.c), .sc (.string v.p)]) :=
  (opens_struct Tryz.underlying38 (by kernel_rfl) (OpensF.cons rfl (k := 1) (by kernel_rfl) (opens_int Tryz.underlying3) (OpensF.cons rfl (k := 1) (by kernel_rfl) (opens_int Tryz.underlying3) (OpensF.cons rfl (k := 1) (by kernel_rfl) (opens_int Tryz.underlying3)
    (OpensF.cons rfl (k := 1) (by kernel_rfl) (opens_string Tryz.underlying9) OpensF.nil))))).map (fun p : Int × Int × Int × ByteArray × Unit => ⟨p.1, p.2.1, p.2.2.1, p.2.2.2.1⟩) (fun p => rfl)
theorem opens_comp : Opens enc Tryz.prog W 48 (fun c : Cmp => [.sc (.int .i64 c.op), .sc (.int .i64 c.v.a), .sc (.int .i64 c.v.b), .sc (.int .i64 c.v.c), .sc (.string c.v.p)]) :=
  (opens_struct Tryz.underlying48 (by kernel_rfl) (OpensF.cons rfl (k := 1) (by kernel_rfl) (opens_int Tryz.underlying3) (OpensF.cons rfl (k := 4) (by kernel_rfl) opens_ver OpensF.nil))).map (fun p : Int × Ver × Unit => ⟨p.1, p.2.1⟩) (fun p => rfl)
noncomputable instance : Inhabited Cmp := ⟨Cmp.zero⟩
theorem opens_comps : Opens enc Tryz.prog W 46 (fun l : List Cmp => [cmpsT l]) :=
  opens_slice Cmp.t (fun c => rfl) Tryz.underlying46 (fun c => by rw [show (Tryz.prog).cellsOf 48 = 5 by kernel_rfl]; rfl) (by rw [show (Tryz.prog).cellsOf 48 = 5 by kernel_rfl]; omega) opens_comp
theorem opens_rng : Opens enc Tryz.prog W 25 (fun r : Rng => [.ls (r.map cmpsT)]) :=
  (opens_struct Tryz.underlying25 (by kernel_rfl) (OpensF.cons rfl (k := 1) (by kernel_rfl) (opens_slice cmpsT (fun l => rfl) Tryz.underlying23 (fun c => by rw [show (Tryz.prog).cellsOf 46 = 1 by kernel_rfl]; rfl) (by rw [show (Tryz.prog).cellsOf 46 = 1 by kernel_rfl]; omega) opens_comps) OpensF.nil)).map
    (fun p : Rng × Unit => p.1) (fun p => rfl)
end
end Go.Lg.Tryz
