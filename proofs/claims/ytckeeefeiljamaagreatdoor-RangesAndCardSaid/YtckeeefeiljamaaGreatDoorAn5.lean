/- Words and laws that the theorem leans on (part 5). -/
import Derived.Test.YtckeeefeiljamaaGreatDoorAn1
import Derived.Test.YtckeeefeiljamaaGreatDoorAn2
import Derived.Test.YtckeeefeiljamaaGreatDoorAn3
import Derived.Test.YtckeeefeiljamaaGreatDoorAn4
import Derived.Laws.Cover3
import Derived.Lib.AppendZerosOnto
import Derived.Lib.SliceRun
import Derived.Lib.Walk
import Derived.Shelf.RegionOpenPlain
import Derived.Test.YtckeeefeiljamaaGreatDoorRows
import Derived.Carry
import Derived.Lib.SmallJoins
import Derived.LaidMore
import Derived.PinnedBridge
import Derived.HandedShaped
import Derived.ProofKit
import Derived.OpenShut
import Derived.ShutString
import Derived.SizedLaws
import Derived.Stop.LaidErr
import Derived.Stop.Joined
import Derived.Shelf.Vars
import Derived.Lib.LaidTab
import Derived.MakeChecks

set_option linter.unusedVariables false
set_option linter.unusedSimpArgs false
namespace Go.Lg.Tryz
open Go Go.Proofs Go.RowKit Go.Lib Go.Shelf Go.Lg.Sem
theorem Sq.splitSeq {G : Env} {n : Nat} {m : Store} {ops l : List Oper} {o : Oper} {s sep : ByteArray} {d : Nat} {K : Store → Prop} (κ0 κ1 κ2 : Loc) (h : evRaw n ops o m = some (28, [.string s, .string sep], d))
    (h3 : (κ0.isL && κ1.isL && κ2.isL && !κ0.eqb κ1 && !κ0.eqb κ2 && !κ1.eqb κ2) = true) (hf : (freshB [κ0, κ1, κ2] m && pinB [κ0, κ1, κ2] G.pins) = true)
    (k : Sq Tryz.prog G n ops l ((.s d, .fn 73 [.ptr κ1 0, .ptr κ0 0, .ptr κ2 0]) :: (κ2, .blk 3 [int 0]) :: (κ1, .blk 9 [str sep]) :: (κ0, .blk 9 [str s]) :: m) K) : Sq Tryz.prog G n ops (o :: l) m K := by
  refine Sq.raw (fr := [κ0, κ1, κ2]) (Post := fun w v w' => v = seqV w.heap.size ∧ w' = seqW s sep w) h ⟨_, Tryz.func28, rfl, rfl⟩ (fun w => (SplitSeq_any s sep w).mono fun e w' ⟨he, hw⟩ => ⟨_, he, rfl, hw⟩) hf (fun Γ M Ow a w v w' hpn hr hd hP => ?_) k
  obtain ⟨rfl, rfl⟩ := hP
  rw [Bool.and_eq_true] at hf
  exact hr.put3 hd h3 hpn hf.1 rfl rfl rfl 73
theorem Tr.split {G : Env} {n : Nat} {m : Store} {g t t' : Nat} {assign body : Code} {Q : Exit → Store → Prop} {κ0 κ1 κ2 : Loc} {s sep : ByteArray} (pins : List Loc) (S : Nat → Store) (inv : Nat → Prop) (hG : G.st = Gw)
    (hg : lk m (.s g) = some (.fn 73 [.ptr κ1 0, .ptr κ0 0, .ptr κ2 0])) (hb0 : lk m κ0 = some (.blk 9 [.tr (.sc (.string s))])) (hb1 : lk m κ1 = some (.blk 9 [.tr (.sc (.string sep))])) (hb2 : lk m κ2 = some (.blk 3 [.tr (.sc (.int .i64 0))]))
    (hL : (κ0.isL && κ1.isL && κ2.isL && !κ0.eqb κ1 && !κ0.eqb κ2) = true) (hs : s.size < 4294967281) (h1 : 1 ≤ sep.size) (ht : Nat.blt t n = true) (ht' : Nat.blt t' n = true)
    (hassign : ∀ (l k : Nat) (a : Act) (W : World) (K : Act → World → Prop), K (a.put (some t') (a.tmps.getD t undef)) W → assign.wpIn (FW (some l)) k Tryz.prog (Exit.then K fun _ _ _ => False) a W)
    (h0 : inv 0) (hs0 : Sub (S 0) m) (hok : ∀ k, okS pins (S k) = true) (hpb : ∀ k, pinsB (S k) pins = true) (hslots : ∀ k q v, lk (S 0) (.s q) = some v → lk (S k) (.s q) = some v)
    (hno : lk (S 0) κ0 = none ∧ lk (S 0) κ1 = none ∧ lk (S 0) κ2 = none) (hGp : G.pins.all (pins.contains ·) = true)
    (round : ∀ k p, (pieces sep s)[k]? = some p → inv k → Tr Tryz.prog ⟨G.st, pins⟩ n body ((.s t', .tr (.sc (.string p))) :: (.s t, .tr (.sc (.string p))) :: S k) (roundQ pins (S 0) (fun m' => inv (k + 1) ∧ OutL (S 0) (S (k + 1)) m') Q))
    (done : inv (pieces sep s).length → Q .normal (S (pieces sep s).length)) :
    Tr Tryz.prog G n (.rangeFunc (.tmp g) #[t] assign body) m Q :=
  Tr.range (xs := pieces sep s) (mx := 2) pins S inv hg hb0 hb1 hb2 hL (fun w hw => by have := (hG ▸ hw : Gw w).big; omega)
    (fun w b0 b1 b2 hw n1 n2 nm a0 a1 a2 => Seq.split_Iter 8 (by omega) s sep hs h1 w b0 b1 b2 n1 n2 nm a0 a1 a2 (hG ▸ hw)) (enters_of Tryz.func73 (by kernel_rfl) rfl) ht ht' hassign h0 hs0 hok hpb hslots hno hGp round done
abbrev parseA (r : Rng × Int) : AV := .tup [rngArg r.1, int r.2]
theorem rangeOk (s : ByteArray) (hs : s.size ≤ 1000000) : Rng.ok ((pieces bars s).map altL) ∧ ((pieces bars s).map altL).length ≤ 1000001 := by
  have h1 := pieces_lenS bars s (by decide)
  refine ⟨?_, by rw [List.length_map]; omega⟩
  intro l hl
  obtain ⟨a, ha, rfl⟩ := List.mem_map.1 hl
  have h2 := pieces_sizeS bars (by decide) s.size s rfl a ha
  have h3 := pieces_lenS sp a (by decide)
  refine ⟨by unfold altL; rw [List.length_map]; omega, ?_⟩
  intro c hc
  obtain ⟨t, ht, rfl⟩ := List.mem_map.1 hc
  have h4 := pieces_sizeS sp (by decide) a.size a rfl t ht
  have h5 := compV_size t
  show (compV t).1.v.p.size ≤ 1000000000
  omega
theorem rParse_ok (s : ByteArray) (hs : s.size ≤ 1000000) : Fn Tryz.prog Gw 12 [str s] [] (· = parseA (rangeV s)) := by
  obtain ⟨hok, hlen⟩ := rangeOk s hs
  have hsz := pieces_sizeS bars (by decide) s.size s rfl
  have hr : rangeV s = if (pieces bars s).all altOk = true ∧ rngRight ((pieces bars s).map altL) = true then ((pieces bars s).map altL, 0) else ([], 10) := rfl
  have hright := rngRight_ok _ hok (by omega)
  have hlen0 := pieces_lenS bars s (by decide)
  rw [hr]
  clear hr
  obtain ⟨xs, hxs⟩ : ∃ xs, pieces bars s = xs := ⟨_, rfl⟩
  rw [hxs] at hok hlen hsz hright hlen0 ⊢
  refine Fn.of tab_ok Tryz.func12 rfl (by decide) (by simp [Tryz.f12]) rfl (fun κ v h => by cases h) Gw.below ?_
  repeat' (first | refine Tr.seq ?_ | refine Tr.region ?_ | refine Sq.ev tab_ok rfl rfl ?_ | refine Sq.nil ?_ | (refine Sq.guard rfl rfl (fun _ => ?_) (fun _ => ?_) <;> refine Sq.ev tab_ok rfl rfl ?_) | (refine Tr.cond rfl (fun _ => ?_) (fun _ => ?_) <;> try (rename_i h; cases h; done)) | refine Tr.block ?_ | refine Tr.skip ?_ | refine Tr.ret ⟨_, rfl, ?_⟩)
  refine Sq.splitSeq (.l 101) (.l 102) (.l 103) rfl rfl rfl ?_
  repeat' (first | refine Tr.seq ?_ | refine Tr.region ?_ | refine Sq.ev tab_ok rfl rfl ?_ | refine Sq.nil ?_ | (refine Sq.guard rfl rfl (fun _ => ?_) (fun _ => ?_) <;> refine Sq.ev tab_ok rfl rfl ?_) | (refine Tr.cond rfl (fun _ => ?_) (fun _ => ?_) <;> try (rename_i h; cases h; done)) | refine Tr.block ?_ | refine Tr.skip ?_ | refine Tr.ret ⟨_, rfl, ?_⟩)
  refine Tr.split (s := s) (sep := bars) [.l 2, .l 3, .l 4] (fun k => [(.s 2, .ptr (.l 2) 0), (.l 2, .blk 25 [.own 46 []]), (.s 3, .ptr (.l 3) 0), (.l 3, .blk 26 [int 0]), (.s 4, .ptr (.l 4) 0), (.l 4, .blk 25 [.own 46 (((xs.take k).map altL).map cmpsT)])])
    (fun k => k ≤ xs.length ∧ (xs.take k).all altOk = true) rfl rfl rfl rfl rfl rfl (by omega) (by decide) rfl rfl (fun l k a W K hK => assign_move l k a W K hK) ⟨by omega, rfl⟩ (Sub.app (l := [_, _, _, _, _, _]) (H := []) ⟨rfl, rfl, rfl, rfl, rfl, rfl, trivial⟩ (fun κ v h => nomatch h))
    (fun k => rfl) (fun k => rfl) (fun k q v h => h) ⟨rfl, rfl, rfl⟩ rfl ?_ ?_
  · rintro k alt hk ⟨hk1, hinv⟩
    rw [hxs] at hk
    obtain ⟨hlt, hka⟩ := List.getElem?_eq_some_iff.1 hk
    have ham : alt ∈ xs := hka ▸ List.getElem_mem hlt
    have haz := hsz alt ham
    have halen := pieces_lenS sp alt (by decide)
    have hasz := pieces_sizeS sp (by decide) alt.size alt rfl
    have hstep : ((xs.take (k + 1)).map altL).map cmpsT = ((xs.take k).map altL).map cmpsT ++ [cmpsT (altL alt)] := by
      rw [List.take_succ_eq_append_getElem hlt, hka]; simp
    have hall : (xs.take (k + 1)).all altOk = ((xs.take k).all altOk && altOk alt) := by
      rw [List.take_succ_eq_append_getElem hlt, List.all_append, hka]; simp
    have hbad : altOk alt = false → ¬ (xs.all altOk = true ∧ rngRight (xs.map altL) = true) := fun h ⟨h2, _⟩ => by
      rw [List.all_eq_true] at h2
      rw [h2 alt ham] at h; cases h
    have hao : altOk alt = (pieces sp alt).all fun t => (compV t).2 := rfl
    have hal : altL alt = (pieces sp alt).map fun t => (compV t).1 := rfl
    obtain ⟨ys, hys⟩ : ∃ ys, pieces sp alt = ys := ⟨_, rfl⟩
    rw [hys] at halen hasz hao hal
    repeat' (first | refine Tr.seq ?_ | refine Tr.region ?_ | refine Sq.ev tab_ok rfl rfl ?_ | refine Sq.nil ?_ | (refine Sq.guard rfl rfl (fun _ => ?_) (fun _ => ?_) <;> refine Sq.ev tab_ok rfl rfl ?_) | (refine Tr.cond rfl (fun _ => ?_) (fun _ => ?_) <;> try (rename_i h; cases h; done)) | refine Tr.block ?_ | refine Tr.skip ?_ | refine Tr.ret ⟨_, rfl, ?_⟩)
    refine Sq.splitSeq (.l 111) (.l 112) (.l 113) rfl rfl rfl ?_
    repeat' (first | refine Tr.seq ?_ | refine Tr.region ?_ | refine Sq.ev tab_ok rfl rfl ?_ | refine Sq.nil ?_ | (refine Sq.guard rfl rfl (fun _ => ?_) (fun _ => ?_) <;> refine Sq.ev tab_ok rfl rfl ?_) | (refine Tr.cond rfl (fun _ => ?_) (fun _ => ?_) <;> try (rename_i h; cases h; done)) | refine Tr.block ?_ | refine Tr.skip ?_ | refine Tr.ret ⟨_, rfl, ?_⟩)
    refine Tr.split (s := alt) (sep := sp) [.l 2, .l 3, .l 4, .l 6] (fun j => [(.s 2, .ptr (.l 2) 0), (.l 2, .blk 25 [.own 46 []]), (.s 3, .ptr (.l 3) 0), (.l 3, .blk 26 [int 0]), (.s 4, .ptr (.l 4) 0), (.l 4, .blk 25 [.own 46 (((xs.take k).map altL).map cmpsT)]),
        (.s 6, .ptr (.l 6) 0), (.l 6, .blk 46 [.own 48 (((ys.take j).map fun t => (compV t).1).map Cmp.t)])])
      (fun j => j ≤ ys.length ∧ (ys.take j).all (fun t => (compV t).2) = true) rfl rfl rfl rfl rfl rfl (by omega) (by decide) rfl rfl (fun l k a W K hK => assign_move l k a W K hK) ⟨by omega, rfl⟩ (Sub.app (l := [_, _, _, _, _, _, _, _]) (H := []) ⟨rfl, rfl, rfl, rfl, rfl, rfl, rfl, rfl, trivial⟩ (fun κ v h => nomatch h))
      (fun k => rfl) (fun k => rfl) (fun k q v h => h) ⟨rfl, rfl, rfl⟩ rfl ?_ ?_
    · rintro j t hj ⟨hj1, hjv⟩
      rw [hys] at hj
      obtain ⟨hjlt, hja⟩ := List.getElem?_eq_some_iff.1 hj
      have htm : t ∈ ys := hja ▸ List.getElem_mem hjlt
      have htz := hasz t htm
      have hcp := comp_ok t (by omega)
      have hjs : ((ys.take (j + 1)).map fun t => (compV t).1).map Cmp.t = ((ys.take j).map fun t => (compV t).1).map Cmp.t ++ [Cmp.t (compV t).1] := by
        rw [List.take_succ_eq_append_getElem hjlt, hja]; simp
      have hjo : (ys.take (j + 1)).all (fun t => (compV t).2) = ((ys.take j).all (fun t => (compV t).2) && (compV t).2) := by
        rw [List.take_succ_eq_append_getElem hjlt, List.all_append, hja]; simp
      have htb : (compV t).2 = false → altOk alt = false := fun h => by
        rw [hao, ← Bool.not_eq_true, List.all_eq_true]
        intro h2
        rw [h2 t htm] at h; cases h
      generalize compV t = c at hcp hjs hjo htb
      repeat' (first | refine Tr.seq ?_ | refine Tr.region ?_ | refine Sq.ev tab_ok rfl rfl ?_ | refine Sq.nil ?_ | (refine Sq.guard rfl rfl (fun _ => ?_) (fun _ => ?_) <;> refine Sq.ev tab_ok rfl rfl ?_) | (refine Tr.cond rfl (fun _ => ?_) (fun _ => ?_) <;> try (rename_i h; cases h; done)) | refine Tr.block ?_ | refine Tr.skip ?_ | refine Tr.ret ⟨_, rfl, ?_⟩)
      refine Sq.callv rfl (hcp) ?_
      repeat' (first | refine Tr.seq ?_ | refine Tr.region ?_ | refine Sq.ev tab_ok rfl rfl ?_ | refine Sq.nil ?_ | (refine Sq.guard rfl rfl (fun _ => ?_) (fun _ => ?_) <;> refine Sq.ev tab_ok rfl rfl ?_) | (refine Tr.cond rfl (fun _ => ?_) (fun _ => ?_) <;> try (rename_i h; cases h; done)) | refine Tr.block ?_ | refine Tr.skip ?_ | refine Tr.ret ⟨_, rfl, ?_⟩)
      · rename_i h
        have h : c.2 = false := by simpa using h
        refine Tr.ret ?_
        refine ⟨[(.s 2, .ptr (.l 2) 0), (.l 2, .blk 25 [.tr (.ls [])]), (.s 3, .ptr (.l 3) 0), (.l 3, .blk 26 [int 10])], ⟨rfl, rfl, rfl, rfl, trivial⟩, rfl, ?_⟩
        refine ⟨[(.s 2, .ptr (.l 2) 0), (.l 2, .blk 25 [.tr (.ls [])]), (.s 3, .ptr (.l 3) 0), (.l 3, .blk 26 [int 10])], ⟨rfl, rfl, rfl, rfl, trivial⟩, rfl, ?_⟩
        refine ⟨_, rfl, ?_⟩
        refine (?_ : _ = _)
        rw [if_neg (hbad (htb h))]; rfl
      · rename_i h
        have h : c.2 = true := by simpa using h
        refine Sq.append tab_ok rfl (by intro y hy; simp only [List.mem_singleton] at hy; subst hy; rfl) (by simp; omega) ?_
        repeat' (first | refine Tr.seq ?_ | refine Tr.region ?_ | refine Sq.ev tab_ok rfl rfl ?_ | refine Sq.nil ?_ | (refine Sq.guard rfl rfl (fun _ => ?_) (fun _ => ?_) <;> refine Sq.ev tab_ok rfl rfl ?_) | (refine Tr.cond rfl (fun _ => ?_) (fun _ => ?_) <;> try (rename_i h; cases h; done)) | refine Tr.block ?_ | refine Tr.skip ?_ | refine Tr.ret ⟨_, rfl, ?_⟩)
        refine ⟨⟨by omega, by rw [hjo, hjv, h]; rfl⟩, ?_⟩
        exact ⟨rfl, rfl, rfl, rfl, rfl, rfl, rfl, congrArg some (congrArg (fun x => AV.blk _ [AV.own _ x]) hjs.symm), trivial⟩
    · rintro ⟨_, hjv⟩
      rw [hys, List.take_of_length_le (Nat.le_refl _)] at hjv
      rw [hys, List.take_of_length_le (Nat.le_refl _)]
      repeat' (first | refine Tr.seq ?_ | refine Tr.region ?_ | refine Sq.ev tab_ok rfl rfl ?_ | refine Sq.nil ?_ | (refine Sq.guard rfl rfl (fun _ => ?_) (fun _ => ?_) <;> refine Sq.ev tab_ok rfl rfl ?_) | (refine Tr.cond rfl (fun _ => ?_) (fun _ => ?_) <;> try (rename_i h; cases h; done)) | refine Tr.block ?_ | refine Tr.skip ?_ | refine Tr.ret ⟨_, rfl, ?_⟩)
      refine Sq.append tab_ok rfl (by intro y hy; simp only [List.mem_singleton] at hy; subst hy; rfl) (by simp; omega) ?_
      repeat' (first | refine Tr.seq ?_ | refine Tr.region ?_ | refine Sq.ev tab_ok rfl rfl ?_ | refine Sq.nil ?_ | (refine Sq.guard rfl rfl (fun _ => ?_) (fun _ => ?_) <;> refine Sq.ev tab_ok rfl rfl ?_) | (refine Tr.cond rfl (fun _ => ?_) (fun _ => ?_) <;> try (rename_i h; cases h; done)) | refine Tr.block ?_ | refine Tr.skip ?_ | refine Tr.ret ⟨_, rfl, ?_⟩)
      refine ⟨⟨by omega, by rw [hall, hinv, hao, hjv]; rfl⟩, ?_⟩
      rw [hal] at hstep
      exact ⟨rfl, rfl, rfl, rfl, rfl, congrArg some (congrArg (fun x => AV.blk _ [AV.own _ x]) hstep.symm), trivial⟩
  · rintro ⟨_, hinv⟩
    rw [hxs, List.take_of_length_le (Nat.le_refl _)] at hinv
    rw [hxs, List.take_of_length_le (Nat.le_refl _)]
    repeat' (first | refine Tr.seq ?_ | refine Tr.region ?_ | refine Sq.ev tab_ok rfl rfl ?_ | refine Sq.nil ?_ | (refine Sq.guard rfl rfl (fun _ => ?_) (fun _ => ?_) <;> refine Sq.ev tab_ok rfl rfl ?_) | (refine Tr.cond rfl (fun _ => ?_) (fun _ => ?_) <;> try (rename_i h; cases h; done)) | refine Tr.block ?_ | refine Tr.skip ?_ | refine Tr.ret ⟨_, rfl, ?_⟩)
    refine Sq.callv rfl (hright) ?_
    repeat' (first | refine Tr.seq ?_ | refine Tr.region ?_ | refine Sq.ev tab_ok rfl rfl ?_ | refine Sq.nil ?_ | (refine Sq.guard rfl rfl (fun _ => ?_) (fun _ => ?_) <;> refine Sq.ev tab_ok rfl rfl ?_) | (refine Tr.cond rfl (fun _ => ?_) (fun _ => ?_) <;> try (rename_i h; cases h; done)) | refine Tr.block ?_ | refine Tr.skip ?_ | refine Tr.ret ⟨_, rfl, ?_⟩)
    · rename_i h
      have h : rngRight (xs.map altL) = false := by simpa using h
      refine (?_ : _ = _)
      rw [if_neg (by rw [h]; simp)]; rfl
    · rename_i h
      have h : rngRight (xs.map altL) = true := by simpa using h
      refine (?_ : _ = _)
      rw [if_pos ⟨hinv, h⟩]
end Go.Lg.Tryz

set_option linter.unusedVariables false
set_option linter.unusedSimpArgs false
namespace Go.Lg.Tryz
open Go Go.Proofs Go.RowKit Go.Lib Go.Shelf Go.Lg.Sem
def ax1 : ByteArray := ⟨#[94, 48, 46, 50, 46, 51]⟩
def ax2 : ByteArray := ⟨#[62, 61, 49, 46, 48, 46, 48, 32, 60, 50, 46, 48, 46, 48, 32, 124, 124, 32, 61, 51, 46, 48, 46, 48]⟩
def ax3 : ByteArray := ⟨#[49, 46, 48, 46, 48]⟩
def ar1 : Rng := [[⟨6, ⟨0, 2, 3, ⟨#[]⟩⟩⟩]]
def ar2 : Rng := [[⟨5, ⟨1, 0, 0, ⟨#[]⟩⟩⟩, ⟨2, ⟨2, 0, 0, ⟨#[]⟩⟩⟩], [⟨1, ⟨3, 0, 0, ⟨#[]⟩⟩⟩]]
theorem ap1 : rangeV ax1 = (ar1, 0) := by with_unfolding_all decide +kernel
theorem ap2 : rangeV ax2 = (ar2, 0) := by with_unfolding_all decide +kernel
theorem ap3 : rangeV ax3 = ([], 10) := by with_unfolding_all decide +kernel
theorem ah1 : hasR ar1 ⟨0, 2, 9, ⟨#[]⟩⟩ = true := by with_unfolding_all decide +kernel
theorem ah2 : hasR ar1 ⟨0, 3, 0, ⟨#[]⟩⟩ = false := by with_unfolding_all decide +kernel
theorem ah3 : hasR ar1 ⟨0, 2, 3, ⟨#[97]⟩⟩ = false := by with_unfolding_all decide +kernel
theorem ah4 : hasR ar2 ⟨3, 0, 0, ⟨#[]⟩⟩ = true := by with_unfolding_all decide +kernel
theorem ah5 : hasR ar2 ⟨2, 0, 0, ⟨#[]⟩⟩ = false := by with_unfolding_all decide +kernel
theorem anchor_ok : Fn Tryz.prog Gw 11 [] [] (· = bool true) := by
  have p1 := rParse_ok ax1 (by decide)
  have p2 := rParse_ok ax2 (by decide)
  have p3 := rParse_ok ax3 (by decide)
  rw [ap1] at p1
  rw [ap2] at p2
  rw [ap3] at p3
  have z0 : ∀ a b c : Int, Ver.ok ⟨a, b, c, ⟨#[]⟩⟩ := ok_nil
  have o1 : ar1.ok := by intro l hl; simp only [ar1, List.mem_singleton] at hl; subst hl; refine ⟨by decide, ?_⟩; intro c hc; simp only [List.mem_singleton] at hc; subst hc; exact z0 _ _ _
  have o2 : ar2.ok := by
    intro l hl
    simp only [ar2, List.mem_cons, List.not_mem_nil, or_false] at hl
    rcases hl with rfl | rfl
    · refine ⟨by decide, ?_⟩; intro c hc; simp only [List.mem_cons, List.not_mem_nil, or_false] at hc; rcases hc with rfl | rfl <;> exact z0 _ _ _
    · refine ⟨by decide, ?_⟩; intro c hc; simp only [List.mem_cons, List.not_mem_nil, or_false] at hc; subst hc; exact z0 _ _ _
  have h1 := hasR_ok ar1 ⟨0, 2, 9, ⟨#[]⟩⟩ o1 (by decide) (z0 _ _ _)
  have h2 := hasR_ok ar1 ⟨0, 3, 0, ⟨#[]⟩⟩ o1 (by decide) (z0 _ _ _)
  have h3 := hasR_ok ar1 ⟨0, 2, 3, ⟨#[97]⟩⟩ o1 (by decide) (by show (ByteArray.mk #[97]).size ≤ 1000000000; decide)
  have h4 := hasR_ok ar2 ⟨3, 0, 0, ⟨#[]⟩⟩ o2 (by decide) (z0 _ _ _)
  have h5 := hasR_ok ar2 ⟨2, 0, 0, ⟨#[]⟩⟩ o2 (by decide) (z0 _ _ _)
  rw [ah1] at h1
  rw [ah2] at h2
  rw [ah3] at h3
  rw [ah4] at h4
  rw [ah5] at h5
  refine Fn.of tab_ok Tryz.func11 rfl (by decide) (by simp [Tryz.f11]) rfl (fun κ v h => by cases h) Gw.below ?_
  repeat' (first | refine Tr.seq ?_ | refine Tr.region ?_ | refine Sq.ev tab_ok rfl rfl ?_ | refine Sq.nil ?_ | (refine Sq.guard rfl rfl (fun _ => ?_) (fun _ => ?_) <;> refine Sq.ev tab_ok rfl rfl ?_) | (refine Tr.cond rfl (fun _ => ?_) (fun _ => ?_) <;> try (rename_i h; cases h; done)) | refine Tr.block ?_ | refine Tr.skip ?_ | refine Tr.ret ⟨_, rfl, ?_⟩)
  refine Sq.callv rfl (p1) ?_
  repeat' (first | refine Tr.seq ?_ | refine Tr.region ?_ | refine Sq.ev tab_ok rfl rfl ?_ | refine Sq.nil ?_ | (refine Sq.guard rfl rfl (fun _ => ?_) (fun _ => ?_) <;> refine Sq.ev tab_ok rfl rfl ?_) | (refine Tr.cond rfl (fun _ => ?_) (fun _ => ?_) <;> try (rename_i h; cases h; done)) | refine Tr.block ?_ | refine Tr.skip ?_ | refine Tr.ret ⟨_, rfl, ?_⟩)
  refine Sq.callv rfl (p2) ?_
  repeat' (first | refine Tr.seq ?_ | refine Tr.region ?_ | refine Sq.ev tab_ok rfl rfl ?_ | refine Sq.nil ?_ | (refine Sq.guard rfl rfl (fun _ => ?_) (fun _ => ?_) <;> refine Sq.ev tab_ok rfl rfl ?_) | (refine Tr.cond rfl (fun _ => ?_) (fun _ => ?_) <;> try (rename_i h; cases h; done)) | refine Tr.block ?_ | refine Tr.skip ?_ | refine Tr.ret ⟨_, rfl, ?_⟩)
  refine Sq.callv rfl (p3) ?_
  repeat' (first | refine Tr.seq ?_ | refine Tr.region ?_ | refine Sq.ev tab_ok rfl rfl ?_ | refine Sq.nil ?_ | (refine Sq.guard rfl rfl (fun _ => ?_) (fun _ => ?_) <;> refine Sq.ev tab_ok rfl rfl ?_) | (refine Tr.cond rfl (fun _ => ?_) (fun _ => ?_) <;> try (rename_i h; cases h; done)) | refine Tr.block ?_ | refine Tr.skip ?_ | refine Tr.ret ⟨_, rfl, ?_⟩)
  refine Sq.callv rfl (h1) ?_
  repeat' (first | refine Tr.seq ?_ | refine Tr.region ?_ | refine Sq.ev tab_ok rfl rfl ?_ | refine Sq.nil ?_ | (refine Sq.guard rfl rfl (fun _ => ?_) (fun _ => ?_) <;> refine Sq.ev tab_ok rfl rfl ?_) | (refine Tr.cond rfl (fun _ => ?_) (fun _ => ?_) <;> try (rename_i h; cases h; done)) | refine Tr.block ?_ | refine Tr.skip ?_ | refine Tr.ret ⟨_, rfl, ?_⟩)
  refine Sq.callv rfl (h2) ?_
  repeat' (first | refine Tr.seq ?_ | refine Tr.region ?_ | refine Sq.ev tab_ok rfl rfl ?_ | refine Sq.nil ?_ | (refine Sq.guard rfl rfl (fun _ => ?_) (fun _ => ?_) <;> refine Sq.ev tab_ok rfl rfl ?_) | (refine Tr.cond rfl (fun _ => ?_) (fun _ => ?_) <;> try (rename_i h; cases h; done)) | refine Tr.block ?_ | refine Tr.skip ?_ | refine Tr.ret ⟨_, rfl, ?_⟩)
  refine Sq.callv rfl (h3) ?_
  repeat' (first | refine Tr.seq ?_ | refine Tr.region ?_ | refine Sq.ev tab_ok rfl rfl ?_ | refine Sq.nil ?_ | (refine Sq.guard rfl rfl (fun _ => ?_) (fun _ => ?_) <;> refine Sq.ev tab_ok rfl rfl ?_) | (refine Tr.cond rfl (fun _ => ?_) (fun _ => ?_) <;> try (rename_i h; cases h; done)) | refine Tr.block ?_ | refine Tr.skip ?_ | refine Tr.ret ⟨_, rfl, ?_⟩)
  refine Sq.callv rfl (h4) ?_
  repeat' (first | refine Tr.seq ?_ | refine Tr.region ?_ | refine Sq.ev tab_ok rfl rfl ?_ | refine Sq.nil ?_ | (refine Sq.guard rfl rfl (fun _ => ?_) (fun _ => ?_) <;> refine Sq.ev tab_ok rfl rfl ?_) | (refine Tr.cond rfl (fun _ => ?_) (fun _ => ?_) <;> try (rename_i h; cases h; done)) | refine Tr.block ?_ | refine Tr.skip ?_ | refine Tr.ret ⟨_, rfl, ?_⟩)
  refine Sq.callv rfl (h5) ?_
  repeat' (first | refine Tr.seq ?_ | refine Tr.region ?_ | refine Sq.ev tab_ok rfl rfl ?_ | refine Sq.nil ?_ | (refine Sq.guard rfl rfl (fun _ => ?_) (fun _ => ?_) <;> refine Sq.ev tab_ok rfl rfl ?_) | (refine Tr.cond rfl (fun _ => ?_) (fun _ => ?_) <;> try (rename_i h; cases h; done)) | refine Tr.block ?_ | refine Tr.skip ?_ | refine Tr.ret ⟨_, rfl, ?_⟩)
  rfl
end Go.Lg.Tryz

set_option linter.unusedVariables false
set_option linter.unusedSimpArgs false
namespace Go.Lg
open Go Go.RowKit

section
variable {P : Program} {G : Env} {n : Nat} {tab : Tab} {m : Store}
def evEqNil (tab : Tab) (n : Nat) (ops : List Oper) (o : Oper) (m : Store) : Option (List T × Nat) := match o.op, o.dst, gOk m ops o.guard with
  | .binOp .eql t x (.const (.slice none 0 0)) _, some d, true => match Nat.blt d n, tlk tab t, opV m x with
    | true, some ⟨_, _, .slice _, _⟩, some v => match lsOf v with
      | some xs => some (xs, d)
      | none => none
    | _, _, _ => none
  | _, _, _ => none
theorem Sq.eqNil {ops l : List Oper} {o : Oper} {xs : List T} {d : Nat} {K : Store → Prop} (hT : TabOk P tab) (h : evEqNil tab n ops o m = some (xs, d)) (k : ∀ b : Bool, (b = true → xs = []) → Sq P G n ops l ((.s d, .tr (.sc (.bool b))) :: m) K) : Sq P G n ops (o :: l) m K := by
  obtain ⟨dst, op, type, pos, after, guard⟩ := o
  unfold evEqNil at h
  simp only at h
  split at h
  · rename_i t x uu d' hgd
    split at h
    · rename_i e _ v hlt ht hv
      split at h
      · rename_i xs' hls
        simp only [Option.some.injEq, Prod.mk.injEq] at h
        obtain ⟨rfl, rfl⟩ := h
        intro Γ hΓ a w hr Q hQ
        obtain ⟨M, Ow, hr0⟩ := hr
        obtain ⟨q1, hq1⟩ := opV_ok hv hr0
        have hv' := deg_vrel hq1
        rw [lsOf_eq hls] at hv'
        have hrep : Rep w M (.ls xs') (a.eval x) := by cases hv' with | tr _ _ h => exact h
        obtain ⟨ad, cap, e1, hcase⟩ := hrep.ls_inv
        have hb : ad.isNone = true → xs' = [] := fun h => by
          rcases hcase with h1 | ⟨b, off, es, h2, _⟩
          · exact h1
          · rw [h2] at h; cases h
        have hu := hT.slice ht rfl
        have hrun : (execOp a.eval (⟨some d', .binOp .eql t x (.const (.slice none 0 0)) uu, type, pos, after, guard⟩ : Oper)).run P w = .ok (.value (.bool ad.isNone)) w := by
          have hce : a.eval (.const (.slice none 0 0)) = .slice none 0 0 := rfl
          have he := run_equal_slice_nil (P := P) w t e ad xs'.length cap hu
          simp [execOp, hce, e1, eqGuard, binOp, he]
        have hd : d' < n := Nat.lt_of_succ_le (Nat.le_of_ble_eq_true hlt)
        have hw := wanted_of hgd hr0 (o := ⟨some d', .binOp .eql t x (.const (.slice none 0 0)) uu, type, pos, after, guard⟩)
        unfold wpListIn
        rw [if_pos hw]
        refine ⟨fun _ _ => trivial, ?_⟩
        rw [show (FW Γ.rd).round = Γ.rd from rfl, semAt_of Γ.rd hrun (fun d e => by cases e), Oper.uponIn_value]
        exact k ad.isNone hb Γ hΓ _ w ⟨M, Ow, hr0.put hd (.tr _ _ (.sc _ rfl))⟩ Q hQ
      · cases h
    · cases h
  · cases h
end
end Go.Lg

set_option linter.unusedVariables false
set_option linter.unusedSimpArgs false
namespace Go.Lg.Tryz
open Go Go.Proofs Go.RowKit Go.Lib Go.Shelf Go.Lg.Sem
set_option maxHeartbeats 2000000 in
set_option maxRecDepth 100000 in
theorem growCmps (n : Nat) (hn : n ≤ 1000000) (w : World) : Calls Tryz.prog 66 #[.slice none 0 0, .int .i64 n] w (GrowPost 48 5 w) := by
  by_cases h0 : n = 0
  · subst h0
    go_enter Tryz.func66, Tryz.ntmps66
    go_wp2_with fail
    go_ret
    exact .inl ⟨rfl, rfl⟩
  · obtain ⟨i0, hi0, hs0, hby, _, _, z, hz0, hzs⟩ := tab_ok.info (t := 48) rfl
    have hone := zero_one hzs (by assumption) (by show 0 < _; decide)
    obtain ⟨z1, z2, z3, z4⟩ := zsOk_all hzs (by assumption)
    have hs0 : i0.size = 5 := hs0
    have hby : i0.bytes = 48 := hby
    have hold : (Builtin.firstCells i0.size 0 (.slice none 0 0)).run Tryz.prog w.drew = .ok (#[] : Array Value) w.drew := run_firstCells_none w.drew i0.size 0 0 0
    have hrz : ∀ ty, (Builtin.append_ #[46, 3] ty #[.slice none 0 0, .int .i64 (n : Int)]).run Tryz.prog w =
        .ok (.slice (some ⟨w.heap.size, 0, none⟩) n (grownCap w n 0 48)) (w.drew.alloc (.cells (Builtin.zeroCells z.cells n ++ Builtin.zeroCells z.cells (grownCap w n 0 48 - n)) 48)) := fun ty => by
      have h := Lib.run_append_grow_zeros w 46 3 ty 48 i0 z .i64 .i64 Tryz.underlying46 Tryz.underlying3 hi0 hz0 none 0 0 [] hold n (by omega) (by omega) (by omega) (by omega)
        (by rw [hby]; omega) (by rw [Nat.zero_add, hby]; exact growslice_fits (by omega) (by omega))
      simpa using h
    have hGn : n ≤ grownCap w n 0 48 := grownCap_ge w _ _ _
    have hzc : z.cells.size = 5 := by have := z1; simpa using this.symm
    have hcs : ∀ q, (Builtin.zeroCells z.cells q).size = q * 5 := fun q => by unfold Builtin.zeroCells; simp [hzc]
    obtain ⟨G, hG⟩ : ∃ G, G = grownCap w n 0 48 := ⟨_, rfl⟩
    rw [← hG] at hrz hGn
    have hG63 : G ≤ 9223372036854775807 := by
      have := grownCap_le_maxLen w n 0 48 (by unfold maxLen; omega)
      rw [← hG] at this
      unfold maxLen at this
      omega
    obtain ⟨carr, hcarr⟩ : ∃ carr, Builtin.zeroCells z.cells n ++ Builtin.zeroCells z.cells (G - n) = carr := ⟨_, rfl⟩
    have hsz : carr.size = G * 5 := by
      have e1 := hcs n
      have e2 := hcs (G - n)
      rw [← hcarr, Array.size_append, e1, e2, ← Nat.add_mul]; congr 1; omega
    have hca : ∀ (k : Nat) (u : Value), carr[k]? = some u → u.oneCell' = true := fun k u hu => by
      rw [← hcarr, Array.getElem?_append] at hu
      split at hu
      · exact hone n k u hu
      · exact hone (G - n) _ u hu
    rw [hcarr] at hrz
    clear hold hG hcarr hone z1 z2 z3 z4 hzs hcs hzc hz0 hi0 hs0 hby
    have h4 : decide ((n : Int) > 0) = true := by simp; omega
    have h5 : decide ((n : Int) < 0) = false := by simp
    have HC := Lib.hid hca
    have HS := Lib.hid hsz
    clear hca hsz
    go_enter Tryz.func66, Tryz.ntmps66
    go_wp2_with (at_builtin; refine Lib.wpList_append_run _ rfl _ _ _ _ rfl _ _ rfl rfl _ _ (hrz _) ?_)
    all_goals go_ret
    all_goals
      exact .inr ⟨G, carr, rfl, ⟨rfl, rfl, rfl, (below_alloc w.drew _).size, (below_alloc w.drew _).block⟩, alloc_at w.drew _, HS.out, HC.out⟩
set_option maxHeartbeats 2000000 in
set_option maxRecDepth 100000 in
theorem growAlts (n : Nat) (hn : n ≤ 1000000) (w : World) : Calls Tryz.prog 67 #[.slice none 0 0, .int .i64 n] w (GrowPost 46 1 w) := by
  by_cases h0 : n = 0
  · subst h0
    go_enter Tryz.func67, Tryz.ntmps67
    go_wp2_with fail
    go_ret
    exact .inl ⟨rfl, rfl⟩
  · obtain ⟨i0, hi0, hs0, hby, _, _, z, hz0, hzs⟩ := tab_ok.info (t := 46) rfl
    have hone := zero_one hzs (by assumption) (by show 0 < _; decide)
    obtain ⟨z1, z2, z3, z4⟩ := zsOk_all hzs (by assumption)
    have hs0 : i0.size = 1 := hs0
    have hby : i0.bytes = 24 := hby
    have hold : (Builtin.firstCells i0.size 0 (.slice none 0 0)).run Tryz.prog w.drew = .ok (#[] : Array Value) w.drew := run_firstCells_none w.drew i0.size 0 0 0
    have hrz : ∀ ty, (Builtin.append_ #[23, 3] ty #[.slice none 0 0, .int .i64 (n : Int)]).run Tryz.prog w =
        .ok (.slice (some ⟨w.heap.size, 0, none⟩) n (grownCap w n 0 46)) (w.drew.alloc (.cells (Builtin.zeroCells z.cells n ++ Builtin.zeroCells z.cells (grownCap w n 0 46 - n)) 46)) := fun ty => by
      have h := Lib.run_append_grow_zeros w 23 3 ty 46 i0 z .i64 .i64 Tryz.underlying23 Tryz.underlying3 hi0 hz0 none 0 0 [] hold n (by omega) (by omega) (by omega) (by omega)
        (by rw [hby]; omega) (by rw [Nat.zero_add, hby]; exact growslice_fits (by omega) (by omega))
      simpa using h
    have hGn : n ≤ grownCap w n 0 46 := grownCap_ge w _ _ _
    have hzc : z.cells.size = 1 := by have := z1; simpa using this.symm
    have hcs : ∀ q, (Builtin.zeroCells z.cells q).size = q * 1 := fun q => by unfold Builtin.zeroCells; simp [hzc]
    obtain ⟨G, hG⟩ : ∃ G, G = grownCap w n 0 46 := ⟨_, rfl⟩
    rw [← hG] at hrz hGn
    have hG63 : G ≤ 9223372036854775807 := by
      have := grownCap_le_maxLen w n 0 46 (by unfold maxLen; omega)
      rw [← hG] at this
      unfold maxLen at this
      omega
    obtain ⟨carr, hcarr⟩ : ∃ carr, Builtin.zeroCells z.cells n ++ Builtin.zeroCells z.cells (G - n) = carr := ⟨_, rfl⟩
    have hsz : carr.size = G * 1 := by
      have e1 := hcs n
      have e2 := hcs (G - n)
      rw [← hcarr, Array.size_append, e1, e2, ← Nat.add_mul]; congr 1; omega
    have hca : ∀ (k : Nat) (u : Value), carr[k]? = some u → u.oneCell' = true := fun k u hu => by
      rw [← hcarr, Array.getElem?_append] at hu
      split at hu
      · exact hone n k u hu
      · exact hone (G - n) _ u hu
    rw [hcarr] at hrz
    clear hold hG hcarr hone z1 z2 z3 z4 hzs hcs hzc hz0 hi0 hs0 hby
    have h4 : decide ((n : Int) > 0) = true := by simp; omega
    have h5 : decide ((n : Int) < 0) = false := by simp
    have HC := Lib.hid hca
    have HS := Lib.hid hsz
    clear hca hsz
    go_enter Tryz.func67, Tryz.ntmps67
    go_wp2_with (at_builtin; refine Lib.wpList_append_run _ rfl _ _ _ _ rfl _ _ rfl rfl _ _ (hrz _) ?_)
    all_goals go_ret
    all_goals
      exact .inr ⟨G, carr, rfl, ⟨rfl, rfl, rfl, (below_alloc w.drew _).size, (below_alloc w.drew _).block⟩, alloc_at w.drew _, HS.out, HC.out⟩
theorem concatCmps {α : Type} (enc : α → T) (hes : ∀ a, (enc a).cells.length = 5) (xs : List (List α)) (hn : (xs.map List.length).sum ≤ 1000000) (hx : xs.length ≤ 1000000) :
    Fn Tryz.prog Gw 46 [.tr (.ls (xs.map fun l => .ls (l.map enc)))] [] (· = .tr (.ls (xs.flatten.map enc))) := by
  have hle : ∀ i, ((xs.take i).map List.length).sum ≤ (xs.map List.length).sum := fun i => by
    have : (xs.map List.length).sum = ((xs.take i).map List.length).sum + ((xs.drop i).map List.length).sum := by
      rw [← List.sum_append, ← List.map_append, List.take_append_drop]
    omega
  have hfl : ∀ i, ((xs.take i).flatten).length ≤ 1000000 := fun i => by
    rw [List.length_flatten]; have := hle i; omega
  refine Fn.of tab_ok Tryz.func46 rfl (by decide) (by simp [Tryz.f46]) rfl (fun κ v h => by cases h) Gw.below ?_
  repeat' (first | refine Tr.seq ?_ | refine Tr.region ?_ | refine Sq.ev tab_ok rfl rfl ?_ | refine Sq.nil ?_ | (refine Sq.guard rfl rfl (fun _ => ?_) (fun _ => ?_) <;> refine Sq.ev tab_ok rfl rfl ?_) | (refine Tr.cond rfl (fun _ => ?_) (fun _ => ?_) <;> try (rename_i h; cases h; done)) | refine Tr.block ?_ | refine Tr.skip ?_ | refine Tr.ret ⟨_, rfl, ?_⟩)
  refine Tr.loopS (fun i : Nat => [(.s 0, .tr (.ls (xs.map fun l => .ls (l.map enc)))), (.s 3, int (((xs.take i).map List.length).sum : Nat)), (.s 9, .tr (.ls (xs.map fun l => .ls (l.map enc)))), (.s 10, int (xs.map fun l => Go.Lg.T.ls (l.map enc)).length), (.s 11, int i)]) (fun i => xs.length - i) (fun i => i ≤ xs.length)
    0 (by omega) (Sub.app (l := [_, _, _, _, _]) (H := []) ⟨rfl, rfl, rfl, rfl, rfl, trivial⟩ (fun κ v h => nomatch h)) ?_
  rintro i hi
  repeat' (first | refine Tr.seq ?_ | refine Tr.region ?_ | refine Sq.ev tab_ok rfl rfl ?_ | refine Sq.nil ?_ | (refine Sq.guard rfl rfl (fun _ => ?_) (fun _ => ?_) <;> refine Sq.ev tab_ok rfl rfl ?_) | (refine Tr.cond rfl (fun _ => ?_) (fun _ => ?_) <;> try (rename_i h; cases h; done)) | refine Tr.block ?_ | refine Tr.skip ?_ | refine Tr.ret ⟨_, rfl, ?_⟩)
  · rename_i h
    have hlt : i < xs.length := by simp only [List.length_map, decide_eq_true_eq] at h; omega
    obtain ⟨l, hl⟩ : ∃ l, xs[i] = l := ⟨_, rfl⟩
    have he : (xs.map fun l => Go.Lg.T.ls (l.map enc))[i]? = some (.ls (l.map enc)) := by rw [List.getElem?_map, List.getElem?_eq_getElem hlt, hl]; rfl
    have hst : ((xs.take (i + 1)).map List.length).sum = ((xs.take i).map List.length).sum + l.length := by rw [List.take_succ_eq_append_getElem hlt, hl]; simp
    have hle1 := hle (i + 1)
    have hw : IntKind.i64.wrap ((((xs.take i).map List.length).sum : Nat) + ((l.map enc).length : Int)) = ((((xs.take (i + 1)).map List.length).sum : Nat) : Int) := by
      rw [Go.IntWalk.i64_in _ ⟨by omega, by rw [List.length_map]; omega⟩, hst, List.length_map]; omega
    refine Sq.index (x := .ls (l.map enc)) tab_ok rfl (by omega) (by simpa using he) rfl ?_
    repeat' (first | refine Tr.seq ?_ | refine Tr.region ?_ | refine Sq.ev tab_ok rfl rfl ?_ | refine Sq.nil ?_ | (refine Sq.guard rfl rfl (fun _ => ?_) (fun _ => ?_) <;> refine Sq.ev tab_ok rfl rfl ?_) | (refine Tr.cond rfl (fun _ => ?_) (fun _ => ?_) <;> try (rename_i h; cases h; done)) | refine Tr.block ?_ | refine Tr.skip ?_ | refine Tr.ret ⟨_, rfl, ?_⟩)
    · rename_i h2
      exfalso
      rw [hw] at h2
      have := of_decide_eq_true h2
      omega
    · exact ⟨i + 1, by omega, by omega, Sub.app (l := [_, _, _, _, _]) (H := []) ⟨rfl, congrArg some (congrArg (fun z => AV.tr (.sc (.int .i64 z))) hw), rfl, rfl, congrArg some (wrapz (by omega) (by omega) (by omega)), trivial⟩ (fun κ v h => nomatch h)⟩
  · rename_i h
    have hge : xs.length ≤ i := by simp only [List.length_map, decide_eq_false_iff_not] at h; omega
    rw [List.take_of_length_le hge]
    refine Tr.exit ?_
    repeat' (first | refine Tr.seq ?_ | refine Tr.region ?_ | refine Sq.ev tab_ok rfl rfl ?_ | refine Sq.nil ?_ | (refine Sq.guard rfl rfl (fun _ => ?_) (fun _ => ?_) <;> refine Sq.ev tab_ok rfl rfl ?_) | (refine Tr.cond rfl (fun _ => ?_) (fun _ => ?_) <;> try (rename_i h; cases h; done)) | refine Tr.block ?_ | refine Tr.skip ?_ | refine Tr.ret ⟨_, rfl, ?_⟩)
    refine Sq.growNil tab_ok rfl ⟨_, Tryz.func66, rfl, rfl⟩ (e := 48) rfl (fun w => growCmps _ hn w) ?_
    repeat' (first | refine Tr.seq ?_ | refine Tr.region ?_ | refine Sq.ev tab_ok rfl rfl ?_ | refine Sq.nil ?_ | (refine Sq.guard rfl rfl (fun _ => ?_) (fun _ => ?_) <;> refine Sq.ev tab_ok rfl rfl ?_) | (refine Tr.cond rfl (fun _ => ?_) (fun _ => ?_) <;> try (rename_i h; cases h; done)) | refine Tr.block ?_ | refine Tr.skip ?_ | refine Tr.ret ⟨_, rfl, ?_⟩)
    refine Tr.loopS (fun i : Nat => [(.s 6, .own 48 ((xs.take i).flatten.map enc)), (.s 25, .tr (.ls (xs.map fun l => .ls (l.map enc)))), (.s 26, int (xs.map fun l => Go.Lg.T.ls (l.map enc)).length), (.s 27, int i)]) (fun i => xs.length - i) (fun i => i ≤ xs.length)
      0 (by omega) (Sub.app (l := [_, _, _, _]) (H := []) ⟨rfl, rfl, rfl, rfl, trivial⟩ (fun κ v h => nomatch h)) ?_
    rintro j hj
    have hfj := hfl (j + 1)
    repeat' (first | refine Tr.seq ?_ | refine Tr.region ?_ | refine Sq.ev tab_ok rfl rfl ?_ | refine Sq.nil ?_ | (refine Sq.guard rfl rfl (fun _ => ?_) (fun _ => ?_) <;> refine Sq.ev tab_ok rfl rfl ?_) | (refine Tr.cond rfl (fun _ => ?_) (fun _ => ?_) <;> try (rename_i h; cases h; done)) | refine Tr.block ?_ | refine Tr.skip ?_ | refine Tr.ret ⟨_, rfl, ?_⟩)
    · rename_i h
      have hlt : j < xs.length := by simp only [List.length_map, decide_eq_true_eq] at h; omega
      obtain ⟨l, hl⟩ : ∃ l, xs[j] = l := ⟨_, rfl⟩
      have he : (xs.map fun l => Go.Lg.T.ls (l.map enc))[j]? = some (.ls (l.map enc)) := by rw [List.getElem?_map, List.getElem?_eq_getElem hlt, hl]; rfl
      have hst : (xs.take (j + 1)).flatten = (xs.take j).flatten ++ l := by rw [List.take_succ_eq_append_getElem hlt, hl]; simp
      rw [hst, List.length_append] at hfj
      refine Sq.index (x := .ls (l.map enc)) tab_ok rfl (by omega) (by simpa using he) rfl ?_
      repeat' (first | refine Tr.seq ?_ | refine Tr.region ?_ | refine Sq.ev tab_ok rfl rfl ?_ | refine Sq.nil ?_ | (refine Sq.guard rfl rfl (fun _ => ?_) (fun _ => ?_) <;> refine Sq.ev tab_ok rfl rfl ?_) | (refine Tr.cond rfl (fun _ => ?_) (fun _ => ?_) <;> try (rename_i h; cases h; done)) | refine Tr.block ?_ | refine Tr.skip ?_ | refine Tr.ret ⟨_, rfl, ?_⟩)
      refine Sq.append tab_ok rfl (fun y hy => by obtain ⟨a, _, rfl⟩ := List.mem_map.1 hy; exact hes a) (by rw [List.length_map, List.length_map]; omega) ?_
      repeat' (first | refine Tr.seq ?_ | refine Tr.region ?_ | refine Sq.ev tab_ok rfl rfl ?_ | refine Sq.nil ?_ | (refine Sq.guard rfl rfl (fun _ => ?_) (fun _ => ?_) <;> refine Sq.ev tab_ok rfl rfl ?_) | (refine Tr.cond rfl (fun _ => ?_) (fun _ => ?_) <;> try (rename_i h; cases h; done)) | refine Tr.block ?_ | refine Tr.skip ?_ | refine Tr.ret ⟨_, rfl, ?_⟩)
      exact ⟨j + 1, by omega, by omega, Sub.app (l := [_, _, _, _]) (H := []) ⟨congrArg some (congrArg (AV.own _) (by rw [hst, List.map_append])), rfl, rfl, congrArg some (wrapz (by omega) (by omega) (by omega)), trivial⟩ (fun κ v h => nomatch h)⟩
    · rename_i h
      have hge : xs.length ≤ j := by simp only [List.length_map, decide_eq_false_iff_not] at h; omega
      rw [List.take_of_length_le hge]
      refine Tr.exit ?_
      repeat' (first | refine Tr.seq ?_ | refine Tr.region ?_ | refine Sq.ev tab_ok rfl rfl ?_ | refine Sq.nil ?_ | (refine Sq.guard rfl rfl (fun _ => ?_) (fun _ => ?_) <;> refine Sq.ev tab_ok rfl rfl ?_) | (refine Tr.cond rfl (fun _ => ?_) (fun _ => ?_) <;> try (rename_i h; cases h; done)) | refine Tr.block ?_ | refine Tr.skip ?_ | refine Tr.ret ⟨_, rfl, ?_⟩)
      rfl
theorem concatAlts {α : Type} (enc : α → T) (hes : ∀ a, (enc a).cells.length = 1) (xs : List (List α)) (hn : (xs.map List.length).sum ≤ 1000000) (hx : xs.length ≤ 1000000) :
    Fn Tryz.prog Gw 47 [.tr (.ls (xs.map fun l => .ls (l.map enc)))] [] (· = .tr (.ls (xs.flatten.map enc))) := by
  have hle : ∀ i, ((xs.take i).map List.length).sum ≤ (xs.map List.length).sum := fun i => by
    have : (xs.map List.length).sum = ((xs.take i).map List.length).sum + ((xs.drop i).map List.length).sum := by
      rw [← List.sum_append, ← List.map_append, List.take_append_drop]
    omega
  have hfl : ∀ i, ((xs.take i).flatten).length ≤ 1000000 := fun i => by
    rw [List.length_flatten]; have := hle i; omega
  refine Fn.of tab_ok Tryz.func47 rfl (by decide) (by simp [Tryz.f47]) rfl (fun κ v h => by cases h) Gw.below ?_
  repeat' (first | refine Tr.seq ?_ | refine Tr.region ?_ | refine Sq.ev tab_ok rfl rfl ?_ | refine Sq.nil ?_ | (refine Sq.guard rfl rfl (fun _ => ?_) (fun _ => ?_) <;> refine Sq.ev tab_ok rfl rfl ?_) | (refine Tr.cond rfl (fun _ => ?_) (fun _ => ?_) <;> try (rename_i h; cases h; done)) | refine Tr.block ?_ | refine Tr.skip ?_ | refine Tr.ret ⟨_, rfl, ?_⟩)
  refine Tr.loopS (fun i : Nat => [(.s 0, .tr (.ls (xs.map fun l => .ls (l.map enc)))), (.s 3, int (((xs.take i).map List.length).sum : Nat)), (.s 9, .tr (.ls (xs.map fun l => .ls (l.map enc)))), (.s 10, int (xs.map fun l => Go.Lg.T.ls (l.map enc)).length), (.s 11, int i)]) (fun i => xs.length - i) (fun i => i ≤ xs.length)
    0 (by omega) (Sub.app (l := [_, _, _, _, _]) (H := []) ⟨rfl, rfl, rfl, rfl, rfl, trivial⟩ (fun κ v h => nomatch h)) ?_
  rintro i hi
  repeat' (first | refine Tr.seq ?_ | refine Tr.region ?_ | refine Sq.ev tab_ok rfl rfl ?_ | refine Sq.nil ?_ | (refine Sq.guard rfl rfl (fun _ => ?_) (fun _ => ?_) <;> refine Sq.ev tab_ok rfl rfl ?_) | (refine Tr.cond rfl (fun _ => ?_) (fun _ => ?_) <;> try (rename_i h; cases h; done)) | refine Tr.block ?_ | refine Tr.skip ?_ | refine Tr.ret ⟨_, rfl, ?_⟩)
  · rename_i h
    have hlt : i < xs.length := by simp only [List.length_map, decide_eq_true_eq] at h; omega
    obtain ⟨l, hl⟩ : ∃ l, xs[i] = l := ⟨_, rfl⟩
    have he : (xs.map fun l => Go.Lg.T.ls (l.map enc))[i]? = some (.ls (l.map enc)) := by rw [List.getElem?_map, List.getElem?_eq_getElem hlt, hl]; rfl
    have hst : ((xs.take (i + 1)).map List.length).sum = ((xs.take i).map List.length).sum + l.length := by rw [List.take_succ_eq_append_getElem hlt, hl]; simp
    have hle1 := hle (i + 1)
    have hw : IntKind.i64.wrap ((((xs.take i).map List.length).sum : Nat) + ((l.map enc).length : Int)) = ((((xs.take (i + 1)).map List.length).sum : Nat) : Int) := by
      rw [Go.IntWalk.i64_in _ ⟨by omega, by rw [List.length_map]; omega⟩, hst, List.length_map]; omega
    refine Sq.index (x := .ls (l.map enc)) tab_ok rfl (by omega) (by simpa using he) rfl ?_
    repeat' (first | refine Tr.seq ?_ | refine Tr.region ?_ | refine Sq.ev tab_ok rfl rfl ?_ | refine Sq.nil ?_ | (refine Sq.guard rfl rfl (fun _ => ?_) (fun _ => ?_) <;> refine Sq.ev tab_ok rfl rfl ?_) | (refine Tr.cond rfl (fun _ => ?_) (fun _ => ?_) <;> try (rename_i h; cases h; done)) | refine Tr.block ?_ | refine Tr.skip ?_ | refine Tr.ret ⟨_, rfl, ?_⟩)
    · rename_i h2
      exfalso
      rw [hw] at h2
      have := of_decide_eq_true h2
      omega
    · exact ⟨i + 1, by omega, by omega, Sub.app (l := [_, _, _, _, _]) (H := []) ⟨rfl, congrArg some (congrArg (fun z => AV.tr (.sc (.int .i64 z))) hw), rfl, rfl, congrArg some (wrapz (by omega) (by omega) (by omega)), trivial⟩ (fun κ v h => nomatch h)⟩
  · rename_i h
    have hge : xs.length ≤ i := by simp only [List.length_map, decide_eq_false_iff_not] at h; omega
    rw [List.take_of_length_le hge]
    refine Tr.exit ?_
    repeat' (first | refine Tr.seq ?_ | refine Tr.region ?_ | refine Sq.ev tab_ok rfl rfl ?_ | refine Sq.nil ?_ | (refine Sq.guard rfl rfl (fun _ => ?_) (fun _ => ?_) <;> refine Sq.ev tab_ok rfl rfl ?_) | (refine Tr.cond rfl (fun _ => ?_) (fun _ => ?_) <;> try (rename_i h; cases h; done)) | refine Tr.block ?_ | refine Tr.skip ?_ | refine Tr.ret ⟨_, rfl, ?_⟩)
    refine Sq.growNil tab_ok rfl ⟨_, Tryz.func67, rfl, rfl⟩ (e := 46) rfl (fun w => growAlts _ hn w) ?_
    repeat' (first | refine Tr.seq ?_ | refine Tr.region ?_ | refine Sq.ev tab_ok rfl rfl ?_ | refine Sq.nil ?_ | (refine Sq.guard rfl rfl (fun _ => ?_) (fun _ => ?_) <;> refine Sq.ev tab_ok rfl rfl ?_) | (refine Tr.cond rfl (fun _ => ?_) (fun _ => ?_) <;> try (rename_i h; cases h; done)) | refine Tr.block ?_ | refine Tr.skip ?_ | refine Tr.ret ⟨_, rfl, ?_⟩)
    refine Tr.loopS (fun i : Nat => [(.s 6, .own 46 ((xs.take i).flatten.map enc)), (.s 25, .tr (.ls (xs.map fun l => .ls (l.map enc)))), (.s 26, int (xs.map fun l => Go.Lg.T.ls (l.map enc)).length), (.s 27, int i)]) (fun i => xs.length - i) (fun i => i ≤ xs.length)
      0 (by omega) (Sub.app (l := [_, _, _, _]) (H := []) ⟨rfl, rfl, rfl, rfl, trivial⟩ (fun κ v h => nomatch h)) ?_
    rintro j hj
    have hfj := hfl (j + 1)
    repeat' (first | refine Tr.seq ?_ | refine Tr.region ?_ | refine Sq.ev tab_ok rfl rfl ?_ | refine Sq.nil ?_ | (refine Sq.guard rfl rfl (fun _ => ?_) (fun _ => ?_) <;> refine Sq.ev tab_ok rfl rfl ?_) | (refine Tr.cond rfl (fun _ => ?_) (fun _ => ?_) <;> try (rename_i h; cases h; done)) | refine Tr.block ?_ | refine Tr.skip ?_ | refine Tr.ret ⟨_, rfl, ?_⟩)
    · rename_i h
      have hlt : j < xs.length := by simp only [List.length_map, decide_eq_true_eq] at h; omega
      obtain ⟨l, hl⟩ : ∃ l, xs[j] = l := ⟨_, rfl⟩
      have he : (xs.map fun l => Go.Lg.T.ls (l.map enc))[j]? = some (.ls (l.map enc)) := by rw [List.getElem?_map, List.getElem?_eq_getElem hlt, hl]; rfl
      have hst : (xs.take (j + 1)).flatten = (xs.take j).flatten ++ l := by rw [List.take_succ_eq_append_getElem hlt, hl]; simp
      rw [hst, List.length_append] at hfj
      refine Sq.index (x := .ls (l.map enc)) tab_ok rfl (by omega) (by simpa using he) rfl ?_
      repeat' (first | refine Tr.seq ?_ | refine Tr.region ?_ | refine Sq.ev tab_ok rfl rfl ?_ | refine Sq.nil ?_ | (refine Sq.guard rfl rfl (fun _ => ?_) (fun _ => ?_) <;> refine Sq.ev tab_ok rfl rfl ?_) | (refine Tr.cond rfl (fun _ => ?_) (fun _ => ?_) <;> try (rename_i h; cases h; done)) | refine Tr.block ?_ | refine Tr.skip ?_ | refine Tr.ret ⟨_, rfl, ?_⟩)
      refine Sq.append tab_ok rfl (fun y hy => by obtain ⟨a, _, rfl⟩ := List.mem_map.1 hy; exact hes a) (by rw [List.length_map, List.length_map]; omega) ?_
      repeat' (first | refine Tr.seq ?_ | refine Tr.region ?_ | refine Sq.ev tab_ok rfl rfl ?_ | refine Sq.nil ?_ | (refine Sq.guard rfl rfl (fun _ => ?_) (fun _ => ?_) <;> refine Sq.ev tab_ok rfl rfl ?_) | (refine Tr.cond rfl (fun _ => ?_) (fun _ => ?_) <;> try (rename_i h; cases h; done)) | refine Tr.block ?_ | refine Tr.skip ?_ | refine Tr.ret ⟨_, rfl, ?_⟩)
      exact ⟨j + 1, by omega, by omega, Sub.app (l := [_, _, _, _]) (H := []) ⟨congrArg some (congrArg (AV.own _) (by rw [hst, List.map_append])), rfl, rfl, congrArg some (wrapz (by omega) (by omega) (by omega)), trivial⟩ (fun κ v h => nomatch h)⟩
    · rename_i h
      have hge : xs.length ≤ j := by simp only [List.length_map, decide_eq_false_iff_not] at h; omega
      rw [List.take_of_length_le hge]
      refine Tr.exit ?_
      repeat' (first | refine Tr.seq ?_ | refine Tr.region ?_ | refine Sq.ev tab_ok rfl rfl ?_ | refine Sq.nil ?_ | (refine Sq.guard rfl rfl (fun _ => ?_) (fun _ => ?_) <;> refine Sq.ev tab_ok rfl rfl ?_) | (refine Tr.cond rfl (fun _ => ?_) (fun _ => ?_) <;> try (rename_i h; cases h; done)) | refine Tr.block ?_ | refine Tr.skip ?_ | refine Tr.ret ⟨_, rfl, ?_⟩)
      rfl
theorem cloneCmps {α : Type} (enc : α → T) (hes : ∀ a, (enc a).cells.length = 5) (xs : List α) (hn : xs.length ≤ 1073741824) : Fn Tryz.prog Gw 48 [.tr (.ls (xs.map enc))] [] (· = .own 48 (xs.map enc)) := by
  refine Fn.of tab_ok Tryz.func48 rfl (by decide) (by simp [Tryz.f48]) rfl (fun κ v h => by cases h) Gw.below ?_
  repeat' (first | refine Tr.seq ?_ | refine Tr.region ?_ | refine Sq.ev tab_ok rfl rfl ?_ | refine Sq.nil ?_ | (refine Sq.guard rfl rfl (fun _ => ?_) (fun _ => ?_) <;> refine Sq.ev tab_ok rfl rfl ?_) | (refine Tr.cond rfl (fun _ => ?_) (fun _ => ?_) <;> try (rename_i h; cases h; done)) | refine Tr.block ?_ | refine Tr.skip ?_ | refine Tr.ret ⟨_, rfl, ?_⟩)
  refine Sq.eqNil tab_ok rfl (fun b hb => ?_)
  cases b
  · repeat' (first | refine Tr.seq ?_ | refine Tr.region ?_ | refine Sq.ev tab_ok rfl rfl ?_ | refine Sq.nil ?_ | (refine Sq.guard rfl rfl (fun _ => ?_) (fun _ => ?_) <;> refine Sq.ev tab_ok rfl rfl ?_) | (refine Tr.cond rfl (fun _ => ?_) (fun _ => ?_) <;> try (rename_i h; cases h; done)) | refine Tr.block ?_ | refine Tr.skip ?_ | refine Tr.ret ⟨_, rfl, ?_⟩)
    refine Sq.append tab_ok rfl (fun y hy => by obtain ⟨a, _, rfl⟩ := List.mem_map.1 hy; exact hes a) (by simpa using hn) ?_
    repeat' (first | refine Tr.seq ?_ | refine Tr.region ?_ | refine Sq.ev tab_ok rfl rfl ?_ | refine Sq.nil ?_ | (refine Sq.guard rfl rfl (fun _ => ?_) (fun _ => ?_) <;> refine Sq.ev tab_ok rfl rfl ?_) | (refine Tr.cond rfl (fun _ => ?_) (fun _ => ?_) <;> try (rename_i h; cases h; done)) | refine Tr.block ?_ | refine Tr.skip ?_ | refine Tr.ret ⟨_, rfl, ?_⟩)
    rfl
  · rw [hb rfl]
    repeat' (first | refine Tr.seq ?_ | refine Tr.region ?_ | refine Sq.ev tab_ok rfl rfl ?_ | refine Sq.nil ?_ | (refine Sq.guard rfl rfl (fun _ => ?_) (fun _ => ?_) <;> refine Sq.ev tab_ok rfl rfl ?_) | (refine Tr.cond rfl (fun _ => ?_) (fun _ => ?_) <;> try (rename_i h; cases h; done)) | refine Tr.block ?_ | refine Tr.skip ?_ | refine Tr.ret ⟨_, rfl, ?_⟩)
    rfl
end Go.Lg.Tryz

set_option linter.unusedVariables false
set_option linter.unusedSimpArgs false
namespace Go.Lg.Sem
open Go Go.Lib
theorem upperV_right (c : Cmp) (h : (upperV c).2 = true) : (upperV c).1.right = true := by
  unfold upperV at h ⊢
  generalize upPart c = k at *
  unfold bumpV at h ⊢
  split at h
  · split at h
    · rename_i h1 h2
      rw [if_pos h1, if_pos h2]
      exact h2
    · simp at h
  · simp at h
theorem hasC_said (c : Cmp) (v : Ver) (hr : cmpRight c = true) : ((saidC c).all fun d => hasC d v) = hasC c v := by
  unfold saidC
  by_cases h6 : c.op < 6
  · rw [if_pos h6]; simp
  · rw [if_neg h6]
    have hle : c.op ≤ 7 := by
      rw [cmpRight, if_neg (by omega)] at hr
      simp only [Bool.and_eq_true, decide_eq_true_eq] at hr; exact hr.2.1
    have h67 : c.op = 6 ∨ c.op = 7 := by omega
    have e : hasC c v = (decide (cmpVer v c.v ≥ 0) && (!(upperV c).2 || decide (cmpVer v (upperV c).1 < 0))) := by
      unfold hasC
      rw [if_neg (by omega), if_neg (by omega), if_neg (by omega), if_neg (by omega), if_neg (by omega), if_pos h67]
    rw [e]
    have e5 : hasC ⟨5, c.v⟩ v = decide (cmpVer v c.v ≥ 0) := by simp [hasC]
    have e2 : hasC ⟨2, (upperV c).1⟩ v = decide (cmpVer v (upperV c).1 < 0) := by simp [hasC]
    cases hu : (upperV c).2
    · simp [e5]
    · simp [e5, e2]
theorem right_said (c : Cmp) (hr : cmpRight c = true) : (saidC c).all cmpRight = true := by
  unfold saidC
  by_cases h6 : c.op < 6
  · rw [if_pos h6]; simp [hr]
  · rw [if_neg h6]
    have hv : c.v.right = true := by
      rw [cmpRight, if_neg (by omega)] at hr
      simp only [Bool.and_eq_true, decide_eq_true_eq] at hr; exact hr.2.2
    have e5 : cmpRight ⟨5, c.v⟩ = true := by simp [cmpRight, hv]
    cases hu : (upperV c).2
    · simp [e5]
    · have := upperV_right c hu
      have e2 : cmpRight ⟨2, (upperV c).1⟩ = true := by simp [cmpRight, this]
      simp [e5, e2]
theorem saidC_ne (c : Cmp) : 1 ≤ (saidC c).length := by
  unfold saidC; split <;> simp
theorem said_ge : ∀ (l : List Cmp), l.length ≤ (l.flatMap saidC).length
  | [] => by simp
  | c :: l => by
    have := said_ge l
    have := saidC_ne c
    rw [List.flatMap_cons, List.length_append, List.length_cons]; omega
theorem all_said (p : Cmp → Bool) (q : Cmp → Bool) : ∀ (l : List Cmp), (∀ c, c ∈ l → (saidC c).all p = q c) → (l.flatMap saidC).all p = l.all q
  | [], _ => rfl
  | c :: l, h => by
    rw [List.flatMap_cons, List.all_append, List.all_cons, h c (List.mem_cons_self ..), all_said p q l (fun d hd => h d (List.mem_cons_of_mem _ hd))]
theorem rngRight_in {r : Rng} (h : rngRight r = true) {l : List Cmp} (hl : l ∈ r) : sizedB l.length = true ∧ l.all cmpRight = true := by
  unfold rngRight at h
  rw [Bool.and_eq_true, List.all_eq_true] at h
  have := h.1 l hl
  rwa [Bool.and_eq_true] at this
theorem rngRight_len {r : Rng} (h : rngRight r = true) : 1 ≤ r.length ∧ r.length ≤ 8 := by
  unfold rngRight sizedB at h
  simp only [Bool.and_eq_true, decide_eq_true_eq] at h
  omega
theorem rngRight_said {r : Rng} (h : rngRight r = true) (hs : smallR (saidR r) = true) : rngRight (saidR r) = true := by
  obtain ⟨h1, h2⟩ := rngRight_len h
  unfold smallR at hs
  rw [Bool.and_eq_true, List.all_eq_true] at hs
  unfold rngRight
  rw [Bool.and_eq_true, List.all_eq_true]
  refine ⟨?_, by simp [saidR, sizedB]; omega⟩
  intro m hm
  have h8 := hs.2 m hm
  obtain ⟨l, hl, rfl⟩ := List.mem_map.1 hm
  obtain ⟨h3, h4⟩ := rngRight_in h hl
  have h5 := said_ge l
  rw [List.all_eq_true] at h4
  rw [Bool.and_eq_true]
  refine ⟨?_, ?_⟩
  · simp only [sizedB, Bool.and_eq_true, decide_eq_true_eq] at h3 h8 ⊢
    omega
  · rw [all_said cmpRight (fun _ => true) l (fun c hc => right_said c (h4 c hc))]
    simp
theorem hasR_said {r : Rng} (v : Ver) (h : rngRight r = true) (hs : smallR (saidR r) = true) : hasR (saidR r) v = hasR r v := by
  unfold hasR
  rw [rngRight_said h hs, h]
  congr 2
  unfold saidR
  rw [List.any_map]
  rw [Bool.eq_iff_iff, List.any_eq_true, List.any_eq_true]
  have key : ∀ l, l ∈ r → ((l.flatMap saidC).all fun c => hasC c v) = l.all fun c => hasC c v := fun l hl => by
    have h4 := (rngRight_in h hl).2
    rw [List.all_eq_true] at h4
    exact all_said _ _ l (fun c hc => hasC_said c v (h4 c hc))
  constructor
  · rintro ⟨l, hl, hh⟩; exact ⟨l, hl, by rw [← key l hl]; exact hh⟩
  · rintro ⟨l, hl, hh⟩; exact ⟨l, hl, by show ((l.flatMap saidC).all fun c => hasC c v) = true; rw [key l hl]; exact hh⟩
def bigR (r : Rng) : Bool := (saidR r).any fun l => decide ((l.length : Int) > 8)
theorem small_big {r : Rng} (h : rngRight r = true) : smallR (saidR r) = !bigR r := by
  obtain ⟨h1, h2⟩ := rngRight_len h
  unfold smallR bigR
  have : (saidR r).length ≤ 8 := by simp [saidR]; omega
  rw [decide_eq_true this, Bool.true_and, Bool.eq_iff_iff, Bool.not_eq_true', List.all_eq_true, ← Bool.not_eq_true, List.any_eq_true]
  constructor
  · rintro h ⟨l, hl, h3⟩
    have := h l hl
    simp only [decide_eq_true_eq] at this h3; omega
  · intro h l hl
    simp only [decide_eq_true_eq]
    rcases Nat.lt_or_ge 8 l.length with h4 | h4
    · exact absurd ⟨l, hl, by simp only [decide_eq_true_eq]; omega⟩ h
    · exact h4
theorem plain_ok_of {m : Nat} {r : Rng} (h : plainR m r = true) (hm : m ≤ 1000) : r.ok ∧ r.length ≤ m ∧ ∀ l, l ∈ r → l.length ≤ m := by
  unfold plainR at h
  rw [Bool.and_eq_true, List.all_eq_true] at h
  have h2 : ∀ l, l ∈ r → l.length ≤ m ∧ ∀ c, c ∈ l → c.v.p.size ≤ 100 := fun l hl => by
    have := h.2 l hl
    unfold plainL at this
    rw [Bool.and_eq_true, List.all_eq_true] at this
    refine ⟨of_decide_eq_true this.1, fun c hc => ?_⟩
    have := this.2 c hc
    unfold plainC at this
    exact of_decide_eq_true this
  refine ⟨fun l hl => ⟨?_, fun c hc => ?_⟩, of_decide_eq_true h.1, fun l hl => (h2 l hl).1⟩
  · have := (h2 l hl).1; omega
  · have := (h2 l hl).2 c hc
    show c.v.p.size ≤ 1000000000
    omega
theorem plain_said {r : Rng} (h : plainR 20 r = true) (hs : smallR (saidR r) = true) : plainR 20 (saidR r) = true := by
  unfold smallR at hs
  rw [Bool.and_eq_true, List.all_eq_true] at hs
  unfold plainR at h ⊢
  rw [Bool.and_eq_true, List.all_eq_true] at h ⊢
  have h1 := of_decide_eq_true hs.1
  refine ⟨by rw [decide_eq_true_eq]; omega, ?_⟩
  intro m hm
  have h8 := of_decide_eq_true (hs.2 m hm)
  obtain ⟨l, hl, rfl⟩ := List.mem_map.1 hm
  have hp := h.2 l hl
  unfold plainL at hp ⊢
  rw [Bool.and_eq_true, List.all_eq_true] at hp
  rw [Bool.and_eq_true]
  refine ⟨by rw [decide_eq_true_eq]; omega, ?_⟩
  rw [all_said plainC (fun _ => true) l (fun c hc => ?_)]
  · simp
  · have hc2 := hp.2 c hc
    unfold saidC
    split
    · simp [hc2]
    · have e5 : plainC ⟨5, c.v⟩ = true := hc2
      have e2 : plainC ⟨2, (upperV c).1⟩ = true := rfl
      split <;> simp [e5, e2]
end Go.Lg.Sem

set_option linter.unusedVariables false
set_option linter.unusedSimpArgs false
namespace Go.Lg.Sem
open Go Go.Lib
def andR (a b : Rng) : Rng := a.flatMap fun l => b.map fun m => l ++ m
def orR (a b : Rng) : Rng := a ++ b
def mostL (l : List Cmp) (k : Nat) (b : Rng) : Nat := b.foldl (fun x m => max x (l.length + m.length)) k
def mostR (k : Nat) (a b : Rng) : Nat := a.foldl (fun x l => mostL l x b) k
theorem mostL_le (l : List Cmp) : ∀ (b : Rng) (k : Nat), mostL l k b ≤ 8 ↔ k ≤ 8 ∧ ∀ m, m ∈ b → l.length + m.length ≤ 8
  | [], k => by simp [mostL]
  | m :: b, k => by
    have := mostL_le l b (max k (l.length + m.length))
    show mostL l (max k (l.length + m.length)) b ≤ 8 ↔ _
    rw [this]
    constructor
    · rintro ⟨h1, h2⟩
      refine ⟨by omega, fun x hx => ?_⟩
      rcases List.mem_cons.1 hx with rfl | hx
      · omega
      · exact h2 x hx
    · rintro ⟨h1, h2⟩
      have := h2 m (List.mem_cons_self ..)
      exact ⟨by omega, fun x hx => h2 x (List.mem_cons_of_mem _ hx)⟩
theorem mostR_le (b : Rng) : ∀ (a : Rng) (k : Nat), mostR k a b ≤ 8 ↔ k ≤ 8 ∧ ∀ l, l ∈ a → ∀ m, m ∈ b → l.length + m.length ≤ 8
  | [], k => by simp [mostR]
  | l :: a, k => by
    have := mostR_le b a (mostL l k b)
    show mostR (mostL l k b) a b ≤ 8 ↔ _
    rw [this, mostL_le]
    constructor
    · rintro ⟨⟨h1, h2⟩, h3⟩
      refine ⟨h1, fun x hx => ?_⟩
      rcases List.mem_cons.1 hx with rfl | hx
      · exact h2
      · exact h3 x hx
    · rintro ⟨h1, h2⟩
      exact ⟨⟨h1, h2 l (List.mem_cons_self ..)⟩, fun x hx => h2 x (List.mem_cons_of_mem _ hx)⟩
theorem mostL_ge (l : List Cmp) : ∀ (b : Rng) (k : Nat), k ≤ mostL l k b ∧ (∀ N : Nat, k ≤ N → (∀ m, m ∈ b → l.length + m.length ≤ N) → mostL l k b ≤ N)
  | [], k => ⟨Nat.le_refl _, fun N h _ => h⟩
  | m :: b, k => by
    obtain ⟨h1, h2⟩ := mostL_ge l b (max k (l.length + m.length))
    refine ⟨Nat.le_trans (Nat.le_max_left _ _) h1, fun N hk hm => h2 N ?_ (fun x hx => hm x (List.mem_cons_of_mem _ hx))⟩
    have := hm m (List.mem_cons_self ..)
    omega
theorem mostR_bound (b : Rng) (N : Nat) : ∀ (a : Rng) (k : Nat), k ≤ N → (∀ l, l ∈ a → ∀ m, m ∈ b → l.length + m.length ≤ N) → mostR k a b ≤ N
  | [], k, h, _ => h
  | l :: a, k, h, hl => mostR_bound b N a _ ((mostL_ge l b k).2 N h (hl l (List.mem_cons_self ..))) (fun x hx => hl x (List.mem_cons_of_mem _ hx))
theorem andR_len (a b : Rng) : (andR a b).length = a.length * b.length := by
  unfold andR
  induction a with
  | nil => simp
  | cons l a ih => rw [List.flatMap_cons, List.length_append, ih, List.length_map, List.length_cons, Nat.succ_mul]; omega
theorem andR_mem {a b : Rng} {x : List Cmp} (h : x ∈ andR a b) : ∃ l m, l ∈ a ∧ m ∈ b ∧ x = l ++ m := by
  unfold andR at h
  obtain ⟨l, hl, hx⟩ := List.mem_flatMap.1 h
  obtain ⟨m, hm, rfl⟩ := List.mem_map.1 hx
  exact ⟨l, m, hl, hm, rfl⟩
theorem andR_in {a b : Rng} {l m : List Cmp} (hl : l ∈ a) (hm : m ∈ b) : l ++ m ∈ andR a b := List.mem_flatMap.2 ⟨l, hl, List.mem_map.2 ⟨m, hm, rfl⟩⟩
theorem small_and (a b : Rng) : smallR (andR a b) = (decide (a.length * b.length ≤ 8) && decide (mostR 0 a b ≤ 8)) := by
  unfold smallR
  rw [andR_len]
  congr 1
  rw [Bool.eq_iff_iff, List.all_eq_true, decide_eq_true_eq, mostR_le]
  constructor
  · intro h
    refine ⟨by omega, fun l hl m hm => ?_⟩
    have := of_decide_eq_true (h _ (andR_in hl hm))
    rwa [List.length_append] at this
  · rintro ⟨_, h⟩ x hx
    obtain ⟨l, m, hl, hm, rfl⟩ := andR_mem hx
    rw [decide_eq_true_eq, List.length_append]
    exact h l hl m hm
theorem rr_len8 {r : Rng} (h : rngRight r = true) {l : List Cmp} (hl : l ∈ r) : 1 ≤ l.length ∧ l.length ≤ 8 := by
  have := (rngRight_in h hl).1
  simp only [sizedB, Bool.and_eq_true, decide_eq_true_eq] at this
  omega
theorem small_or {a b : Rng} (ha : rngRight a = true) (hb : rngRight b = true) : smallR (orR a b) = decide (a.length + b.length ≤ 8) := by
  unfold smallR orR
  rw [List.length_append]
  have : ((a ++ b).all fun l => decide (l.length ≤ 8)) = true := by
    rw [List.all_eq_true]
    intro l hl
    rw [decide_eq_true_eq]
    rcases List.mem_append.1 hl with hl | hl
    · exact (rr_len8 ha hl).2
    · exact (rr_len8 hb hl).2
  rw [this, Bool.and_true]
theorem right_and {a b : Rng} (ha : rngRight a = true) (hb : rngRight b = true) (hs : smallR (andR a b) = true) : rngRight (andR a b) = true := by
  obtain ⟨a1, a2⟩ := rngRight_len ha
  obtain ⟨b1, b2⟩ := rngRight_len hb
  unfold smallR at hs
  rw [Bool.and_eq_true, List.all_eq_true] at hs
  have h8 := of_decide_eq_true hs.1
  have h1 : 1 ≤ (andR a b).length := by rw [andR_len]; exact Nat.mul_pos a1 b1
  unfold rngRight
  rw [Bool.and_eq_true, List.all_eq_true]
  refine ⟨fun x hx => ?_, by simp only [sizedB, Bool.and_eq_true, decide_eq_true_eq]; omega⟩
  have hx8 := of_decide_eq_true (hs.2 x hx)
  obtain ⟨l, m, hl, hm, rfl⟩ := andR_mem hx
  have := rr_len8 ha hl
  rw [List.length_append] at hx8
  rw [Bool.and_eq_true, List.all_append, (rngRight_in ha hl).2, (rngRight_in hb hm).2]
  refine ⟨?_, rfl⟩
  simp only [sizedB, Bool.and_eq_true, decide_eq_true_eq, List.length_append]; omega
theorem right_or {a b : Rng} (ha : rngRight a = true) (hb : rngRight b = true) (hs : smallR (orR a b) = true) : rngRight (orR a b) = true := by
  obtain ⟨a1, a2⟩ := rngRight_len ha
  rw [small_or ha hb, decide_eq_true_eq] at hs
  unfold rngRight
  rw [Bool.and_eq_true, List.all_eq_true]
  refine ⟨fun x hx => ?_, by simp only [sizedB, orR, List.length_append, Bool.and_eq_true, decide_eq_true_eq]; omega⟩
  rcases List.mem_append.1 hx with hx | hx
  · obtain ⟨h1, h2⟩ := rngRight_in ha hx; rw [h1, h2]; rfl
  · obtain ⟨h1, h2⟩ := rngRight_in hb hx; rw [h1, h2]; rfl
theorem any_and (p : Cmp → Bool) (b : Rng) : ∀ a : Rng, ((andR a b).any fun l => l.all p) = ((a.any fun l => l.all p) && (b.any fun l => l.all p))
  | [] => rfl
  | l :: a => by
    have ih := any_and p b a
    have e : andR (l :: a) b = (b.map fun m => l ++ m) ++ andR a b := by simp [andR]
    rw [e, List.any_append, ih, List.any_cons, List.any_map]
    have : (b.any ((fun l => l.all p) ∘ fun m => l ++ m)) = (l.all p && b.any fun m => m.all p) := by
      clear ih e
      induction b with
      | nil => simp
      | cons m b ih => simp only [List.any_cons, ih, Function.comp, List.all_append]; cases l.all p <;> simp
    rw [this]
    cases l.all p <;> cases (b.any fun m => m.all p) <;> simp
theorem has_and {a b : Rng} (v : Ver) (ha : rngRight a = true) (hb : rngRight b = true) (hs : smallR (andR a b) = true) : hasR (andR a b) v = (hasR a v && hasR b v) := by
  unfold hasR
  rw [right_and ha hb hs, ha, hb, any_and]
  cases v.right <;> simp
theorem has_or {a b : Rng} (v : Ver) (ha : rngRight a = true) (hb : rngRight b = true) (hs : smallR (orR a b) = true) : hasR (orR a b) v = (hasR a v || hasR b v) := by
  unfold hasR
  rw [right_or ha hb hs, ha, hb]
  unfold orR
  rw [List.any_append]
  cases v.right <;> simp
theorem ok_and {a b : Rng} (ha : a.ok) (hb : b.ok) (la : ∀ l, l ∈ a → l.length ≤ 1000) (lb : ∀ l, l ∈ b → l.length ≤ 1000) : Rng.ok (andR a b) := fun x hx => by
  obtain ⟨l, m, hl, hm, rfl⟩ := andR_mem hx
  have h1 := la l hl
  have h2 := lb m hm
  refine ⟨by rw [List.length_append]; omega, fun c hc => ?_⟩
  rcases List.mem_append.1 hc with hc | hc
  · exact (ha l hl).2 c hc
  · exact (hb m hm).2 c hc
theorem ok_or {a b : Rng} (ha : a.ok) (hb : b.ok) : Rng.ok (orR a b) := fun x hx => by
  rcases List.mem_append.1 hx with hx | hx
  · exact ha x hx
  · exact hb x hx
end Go.Lg.Sem

set_option linter.unusedVariables false
set_option linter.unusedSimpArgs false
namespace Go.Lg.Tryz
open Go Go.Proofs Go.RowKit Go.Lib Go.Lg.Sem
def boundV (ok : Bool) (r : Rng) : AV := if ok = true then (if smallR r = true then .tup [rngArg r, int 0] else .tup [rngArg [], int 11]) else .tup [rngArg [], int 12]
theorem boundOk (r : Rng) (hn : r.length ≤ 1073741824) : Fn Tryz.prog Gw 45 [.tr (rngT r)] [] (· = boundV true r) := by
  have := bounded_ok r hn
  unfold boundV
  rw [if_pos rfl]; exact this
set_option maxRecDepth 8192 in
theorem And_ok (a b : Rng) (ha : a.ok) (hb : b.ok) (na : a.length ≤ 20) (nb : b.length ≤ 20) (la : ∀ l, l ∈ a → l.length ≤ 20) (lb : ∀ l, l ∈ b → l.length ≤ 20) :
    Fn Tryz.prog Gw 24 [.tr (rngT a), .tr (rngT b)] [] (· = boundV (rngRight a && rngRight b) (andR a b)) := by
  have h1 := rngRight_ok a ha (by omega)
  have h2 := rngRight_ok b hb (by omega)
  have hlast := boundOk (andR a b) (by rw [andR_len]; have := Nat.mul_le_mul na nb; omega)
  have hz : ∀ i k, (andR (a.take i) b).length + (b.take k).length ≤ 1000 := fun i k => by
    rw [andR_len, List.length_take, List.length_take]
    have := Nat.mul_le_mul (Nat.min_le_right i a.length) (Nat.le_refl b.length)
    have h3 := Nat.mul_le_mul na nb
    omega
  refine Fn.of tab_ok Tryz.func24 rfl (by decide) (by simp [Tryz.f24]) rfl (fun κ v h => by cases h) Gw.below ?_
  repeat' (first | refine Tr.seq ?_ | refine Tr.region ?_ | refine Sq.ev tab_ok rfl rfl ?_ | refine Sq.nil ?_ | (refine Sq.guard rfl rfl (fun _ => ?_) (fun _ => ?_) <;> refine Sq.ev tab_ok rfl rfl ?_) | (refine Tr.cond rfl (fun _ => ?_) (fun _ => ?_) <;> try (rename_i h; cases h; done)) | refine Tr.block ?_ | refine Tr.skip ?_ | refine Tr.ret ⟨_, rfl, ?_⟩)
  cases r1 : rngRight a
  · rw [r1] at h1
    refine Sq.callv rfl (h1) ?_
    repeat' (first | refine Tr.seq ?_ | refine Tr.region ?_ | refine Sq.ev tab_ok rfl rfl ?_ | refine Sq.nil ?_ | (refine Sq.guard rfl rfl (fun _ => ?_) (fun _ => ?_) <;> refine Sq.ev tab_ok rfl rfl ?_) | (refine Tr.cond rfl (fun _ => ?_) (fun _ => ?_) <;> try (rename_i h; cases h; done)) | refine Tr.block ?_ | refine Tr.skip ?_ | refine Tr.ret ⟨_, rfl, ?_⟩)
    rfl
  rw [r1] at h1
  refine Sq.callv rfl (h1) ?_
  repeat' (first | refine Tr.seq ?_ | refine Tr.region ?_ | refine Sq.ev tab_ok rfl rfl ?_ | refine Sq.nil ?_ | (refine Sq.guard rfl rfl (fun _ => ?_) (fun _ => ?_) <;> refine Sq.ev tab_ok rfl rfl ?_) | (refine Tr.cond rfl (fun _ => ?_) (fun _ => ?_) <;> try (rename_i h; cases h; done)) | refine Tr.block ?_ | refine Tr.skip ?_ | refine Tr.ret ⟨_, rfl, ?_⟩)
  cases r2 : rngRight b
  · rw [r2] at h2
    refine Sq.callv rfl (h2) ?_
    repeat' (first | refine Tr.seq ?_ | refine Tr.region ?_ | refine Sq.ev tab_ok rfl rfl ?_ | refine Sq.nil ?_ | (refine Sq.guard rfl rfl (fun _ => ?_) (fun _ => ?_) <;> refine Sq.ev tab_ok rfl rfl ?_) | (refine Tr.cond rfl (fun _ => ?_) (fun _ => ?_) <;> try (rename_i h; cases h; done)) | refine Tr.block ?_ | refine Tr.skip ?_ | refine Tr.ret ⟨_, rfl, ?_⟩)
    rfl
  rw [r2] at h2
  refine Sq.callv rfl (h2) ?_
  repeat' (first | refine Tr.seq ?_ | refine Tr.region ?_ | refine Sq.ev tab_ok rfl rfl ?_ | refine Sq.nil ?_ | (refine Sq.guard rfl rfl (fun _ => ?_) (fun _ => ?_) <;> refine Sq.ev tab_ok rfl rfl ?_) | (refine Tr.cond rfl (fun _ => ?_) (fun _ => ?_) <;> try (rename_i h; cases h; done)) | refine Tr.block ?_ | refine Tr.skip ?_ | refine Tr.ret ⟨_, rfl, ?_⟩)
  let S : Nat → List (List Cmp) → Store := fun i acc => [(.s 3, .ptr (.l 3) 0), (.l 3, .blk 25 [.tr (.ls (b.map cmpsT))]), (.s 4, .ptr (.l 4) 0), (.l 4, .blk 25 [.own 46 []]),
    (.s 6, .ptr (.l 6) 0), (.l 6, .blk 25 [.own 46 (acc.map cmpsT)]), (.s 21, .tr (.ls (a.map cmpsT))), (.s 22, int (a.map cmpsT).length), (.s 23, int i)]
  refine Tr.loopS (fun i : Nat => S i (andR (a.take i) b)) (fun i => a.length - i) (fun i => i ≤ a.length) 0 (by omega) (Sub.app (l := [_, _, _, _, _, _, _, _, _]) (H := []) ⟨rfl, rfl, rfl, rfl, rfl, rfl, rfl, rfl, rfl, trivial⟩ (fun κ v h => nomatch h)) ?_
  rintro i hi
  repeat' (first | refine Tr.seq ?_ | refine Tr.region ?_ | refine Sq.ev tab_ok rfl rfl ?_ | refine Sq.nil ?_ | (refine Sq.guard rfl rfl (fun _ => ?_) (fun _ => ?_) <;> refine Sq.ev tab_ok rfl rfl ?_) | (refine Tr.cond rfl (fun _ => ?_) (fun _ => ?_) <;> try (rename_i h; cases h; done)) | refine Tr.block ?_ | refine Tr.skip ?_ | refine Tr.ret ⟨_, rfl, ?_⟩)
  · rename_i h
    have hlt : i < a.length := by simp only [List.length_map, decide_eq_true_eq] at h; omega
    obtain ⟨l, hl⟩ : ∃ l, a[i] = l := ⟨_, rfl⟩
    have hlm : l ∈ a := hl ▸ List.getElem_mem hlt
    have he : (a.map cmpsT)[i]? = some (cmpsT l) := by rw [List.getElem?_map, List.getElem?_eq_getElem hlt, hl]; rfl
    have hst : andR (a.take (i + 1)) b = andR (a.take i) b ++ b.map fun m => l ++ m := by rw [List.take_succ_eq_append_getElem hlt, hl]; simp [andR]
    have hl20 := la l hlm
    refine Sq.index (x := cmpsT l) tab_ok rfl (by omega) (by simpa using he) rfl ?_
    repeat' (first | refine Tr.seq ?_ | refine Tr.region ?_ | refine Sq.ev tab_ok rfl rfl ?_ | refine Sq.nil ?_ | (refine Sq.guard rfl rfl (fun _ => ?_) (fun _ => ?_) <;> refine Sq.ev tab_ok rfl rfl ?_) | (refine Tr.cond rfl (fun _ => ?_) (fun _ => ?_) <;> try (rename_i h; cases h; done)) | refine Tr.block ?_ | refine Tr.skip ?_ | refine Tr.ret ⟨_, rfl, ?_⟩)
    refine Tr.loopS (fun k : Nat => S i (andR (a.take i) b ++ (b.take k).map fun m => l ++ m) ++ [(.s 8, .tr (cmpsT l)), (.s 28, .tr (.ls (b.map cmpsT))), (.s 29, int (b.map cmpsT).length), (.s 30, int k)]) (fun k => b.length - k) (fun k => k ≤ b.length)
      0 (by omega) (Sub.app (l := [_, _, _, _, _, _, _, _, _, _, _, _, _]) (H := []) ⟨rfl, rfl, rfl, rfl, rfl, by exact congrArg some (congrArg (fun x => AV.blk 25 [AV.own 46 x]) (show (andR (a.take i) b).map cmpsT = (andR (a.take i) b ++ (b.take 0).map fun m => l ++ m).map cmpsT by simp)), rfl, rfl, rfl, rfl, rfl, rfl, rfl, trivial⟩ (fun κ v h => nomatch h)) ?_
    rintro k hk
    have hzk := hz i k
    repeat' (first | refine Tr.seq ?_ | refine Tr.region ?_ | refine Sq.ev tab_ok rfl rfl ?_ | refine Sq.nil ?_ | (refine Sq.guard rfl rfl (fun _ => ?_) (fun _ => ?_) <;> refine Sq.ev tab_ok rfl rfl ?_) | (refine Tr.cond rfl (fun _ => ?_) (fun _ => ?_) <;> try (rename_i h; cases h; done)) | refine Tr.block ?_ | refine Tr.skip ?_ | refine Tr.ret ⟨_, rfl, ?_⟩)
    · rename_i h5
      have hk2 : k < b.length := by simp only [List.length_map, decide_eq_true_eq] at h5; omega
      obtain ⟨m, hm⟩ : ∃ m, b[k] = m := ⟨_, rfl⟩
      have hmm : m ∈ b := hm ▸ List.getElem_mem hk2
      have hm20 := lb m hmm
      have hce : (b.map cmpsT)[k]? = some (cmpsT m) := by rw [List.getElem?_map, List.getElem?_eq_getElem hk2, hm]; rfl
      have step : (b.take (k + 1)).map (fun m => l ++ m) = (b.take k).map (fun m => l ++ m) ++ [l ++ m] := by rw [List.take_succ_eq_append_getElem hk2, hm]; simp
      have hcc := concatCmps Cmp.t (fun c => rfl) [l, m] (by simp; omega) (by simp)
      rw [show [l, m].flatten = l ++ m by simp] at hcc
      refine Sq.index (x := cmpsT m) tab_ok rfl (by omega) (by simpa using hce) rfl ?_
      repeat' (first | refine Tr.seq ?_ | refine Tr.region ?_ | refine Sq.ev tab_ok rfl rfl ?_ | refine Sq.nil ?_ | (refine Sq.guard rfl rfl (fun _ => ?_) (fun _ => ?_) <;> refine Sq.ev tab_ok rfl rfl ?_) | (refine Tr.cond rfl (fun _ => ?_) (fun _ => ?_) <;> try (rename_i h; cases h; done)) | refine Tr.block ?_ | refine Tr.skip ?_ | refine Tr.ret ⟨_, rfl, ?_⟩)
      refine Tr.drawn ( DSq.ev tab_ok rfl rfl <| DSq.ev tab_ok rfl rfl <| DSq.ev tab_ok rfl rfl <| DSq.ev tab_ok rfl rfl <| DSq.ev tab_ok rfl rfl <| DSq.call rfl (fun _ => rfl) (hcc) <| DSq.ev tab_ok rfl rfl <| DSq.two rfl (fun q K hK => Sq.append tab_ok rfl (by intro y hy; simp only [List.mem_singleton] at hy; subst hy; rfl) (by simp at hzk ⊢; omega) (Sq.nil hK)) <| DSq.ev tab_ok rfl rfl <| DSq.ev tab_ok rfl rfl <| DSq.nil _) mix_ok rfl ?_
      repeat' (first | refine Tr.seq ?_ | refine Tr.region ?_ | refine Sq.ev tab_ok rfl rfl ?_ | refine Sq.nil ?_ | (refine Sq.guard rfl rfl (fun _ => ?_) (fun _ => ?_) <;> refine Sq.ev tab_ok rfl rfl ?_) | (refine Tr.cond rfl (fun _ => ?_) (fun _ => ?_) <;> try (rename_i h; cases h; done)) | refine Tr.block ?_ | refine Tr.skip ?_ | refine Tr.ret ⟨_, rfl, ?_⟩)
      refine ⟨k + 1, by omega, by omega, Sub.app (l := [_, _, _, _, _, _, _, _, _, _, _, _, _]) (H := []) ⟨rfl, rfl, rfl, rfl, rfl, congrArg some (congrArg (fun x => AV.blk _ [AV.own _ x]) ?_), rfl, rfl, rfl, rfl, rfl, rfl, congrArg some (wrapz (by omega) (by omega) (by omega)), trivial⟩ (fun κ v h => nomatch h)⟩
      rw [step]; simp
    · rename_i h5
      have hk2 : b.length ≤ k := by simp only [List.length_map, decide_eq_false_iff_not] at h5; omega
      rw [List.take_of_length_le hk2, ← hst]
      refine Tr.exit ?_
      repeat' (first | refine Tr.seq ?_ | refine Tr.region ?_ | refine Sq.ev tab_ok rfl rfl ?_ | refine Sq.nil ?_ | (refine Sq.guard rfl rfl (fun _ => ?_) (fun _ => ?_) <;> refine Sq.ev tab_ok rfl rfl ?_) | (refine Tr.cond rfl (fun _ => ?_) (fun _ => ?_) <;> try (rename_i h; cases h; done)) | refine Tr.block ?_ | refine Tr.skip ?_ | refine Tr.ret ⟨_, rfl, ?_⟩)
      exact ⟨i + 1, by omega, by omega, Sub.app (l := [_, _, _, _, _, _, _, _, _]) (H := []) ⟨rfl, rfl, rfl, rfl, rfl, rfl, rfl, rfl, congrArg some (wrapz (by omega) (by omega) (by omega)), trivial⟩ (fun κ v h => nomatch h)⟩
  · rename_i h
    have hge : a.length ≤ i := by simp only [List.length_map, decide_eq_false_iff_not] at h; omega
    rw [List.take_of_length_le hge]
    refine Tr.exit ?_
    repeat' (first | refine Tr.seq ?_ | refine Tr.region ?_ | refine Sq.ev tab_ok rfl rfl ?_ | refine Sq.nil ?_ | (refine Sq.guard rfl rfl (fun _ => ?_) (fun _ => ?_) <;> refine Sq.ev tab_ok rfl rfl ?_) | (refine Tr.cond rfl (fun _ => ?_) (fun _ => ?_) <;> try (rename_i h; cases h; done)) | refine Tr.block ?_ | refine Tr.skip ?_ | refine Tr.ret ⟨_, rfl, ?_⟩)
    unfold boundV at hlast ⊢
    cases hs : smallR (andR a b)
    · rw [hs] at hlast
      refine Sq.callv rfl (hlast) ?_
      repeat' (first | refine Tr.seq ?_ | refine Tr.region ?_ | refine Sq.ev tab_ok rfl rfl ?_ | refine Sq.nil ?_ | (refine Sq.guard rfl rfl (fun _ => ?_) (fun _ => ?_) <;> refine Sq.ev tab_ok rfl rfl ?_) | (refine Tr.cond rfl (fun _ => ?_) (fun _ => ?_) <;> try (rename_i h; cases h; done)) | refine Tr.block ?_ | refine Tr.skip ?_ | refine Tr.ret ⟨_, rfl, ?_⟩)
      rfl
    · rw [hs] at hlast
      refine Sq.callv rfl (hlast) ?_
      repeat' (first | refine Tr.seq ?_ | refine Tr.region ?_ | refine Sq.ev tab_ok rfl rfl ?_ | refine Sq.nil ?_ | (refine Sq.guard rfl rfl (fun _ => ?_) (fun _ => ?_) <;> refine Sq.ev tab_ok rfl rfl ?_) | (refine Tr.cond rfl (fun _ => ?_) (fun _ => ?_) <;> try (rename_i h; cases h; done)) | refine Tr.block ?_ | refine Tr.skip ?_ | refine Tr.ret ⟨_, rfl, ?_⟩)
      rfl
set_option maxRecDepth 8192 in
theorem Or_ok (a b : Rng) (ha : a.ok) (hb : b.ok) (na : a.length ≤ 20) (nb : b.length ≤ 20) (la : ∀ l, l ∈ a → l.length ≤ 20) (lb : ∀ l, l ∈ b → l.length ≤ 20) :
    Fn Tryz.prog Gw 25 [.tr (rngT a), .tr (rngT b)] [] (· = boundV (rngRight a && rngRight b) (orR a b)) := by
  have h1 := rngRight_ok a ha (by omega)
  have h2 := rngRight_ok b hb (by omega)
  have hcat := concatAlts cmpsT (fun l => rfl) [a, b] (by simp; omega) (by simp)
  rw [show [a, b].flatten = orR a b by simp [orR]] at hcat
  have nr : (orR a b).length ≤ 40 := by unfold orR; rw [List.length_append]; omega
  have hlast := boundOk (orR a b) (by omega)
  have lr : ∀ l, l ∈ orR a b → l.length ≤ 20 := fun l hl => by
    rcases List.mem_append.1 hl with hl | hl
    · exact la l hl
    · exact lb l hl
  refine Fn.of tab_ok Tryz.func25 rfl (by decide) (by simp [Tryz.f25]) rfl (fun κ v h => by cases h) Gw.below ?_
  repeat' (first | refine Tr.seq ?_ | refine Tr.region ?_ | refine Sq.ev tab_ok rfl rfl ?_ | refine Sq.nil ?_ | (refine Sq.guard rfl rfl (fun _ => ?_) (fun _ => ?_) <;> refine Sq.ev tab_ok rfl rfl ?_) | (refine Tr.cond rfl (fun _ => ?_) (fun _ => ?_) <;> try (rename_i h; cases h; done)) | refine Tr.block ?_ | refine Tr.skip ?_ | refine Tr.ret ⟨_, rfl, ?_⟩)
  cases r1 : rngRight a
  · rw [r1] at h1
    refine Sq.callv rfl (h1) ?_
    repeat' (first | refine Tr.seq ?_ | refine Tr.region ?_ | refine Sq.ev tab_ok rfl rfl ?_ | refine Sq.nil ?_ | (refine Sq.guard rfl rfl (fun _ => ?_) (fun _ => ?_) <;> refine Sq.ev tab_ok rfl rfl ?_) | (refine Tr.cond rfl (fun _ => ?_) (fun _ => ?_) <;> try (rename_i h; cases h; done)) | refine Tr.block ?_ | refine Tr.skip ?_ | refine Tr.ret ⟨_, rfl, ?_⟩)
    rfl
  rw [r1] at h1
  refine Sq.callv rfl (h1) ?_
  repeat' (first | refine Tr.seq ?_ | refine Tr.region ?_ | refine Sq.ev tab_ok rfl rfl ?_ | refine Sq.nil ?_ | (refine Sq.guard rfl rfl (fun _ => ?_) (fun _ => ?_) <;> refine Sq.ev tab_ok rfl rfl ?_) | (refine Tr.cond rfl (fun _ => ?_) (fun _ => ?_) <;> try (rename_i h; cases h; done)) | refine Tr.block ?_ | refine Tr.skip ?_ | refine Tr.ret ⟨_, rfl, ?_⟩)
  cases r2 : rngRight b
  · rw [r2] at h2
    refine Sq.callv rfl (h2) ?_
    repeat' (first | refine Tr.seq ?_ | refine Tr.region ?_ | refine Sq.ev tab_ok rfl rfl ?_ | refine Sq.nil ?_ | (refine Sq.guard rfl rfl (fun _ => ?_) (fun _ => ?_) <;> refine Sq.ev tab_ok rfl rfl ?_) | (refine Tr.cond rfl (fun _ => ?_) (fun _ => ?_) <;> try (rename_i h; cases h; done)) | refine Tr.block ?_ | refine Tr.skip ?_ | refine Tr.ret ⟨_, rfl, ?_⟩)
    rfl
  rw [r2] at h2
  refine Sq.callv rfl (h2) ?_
  repeat' (first | refine Tr.seq ?_ | refine Tr.region ?_ | refine Sq.ev tab_ok rfl rfl ?_ | refine Sq.nil ?_ | (refine Sq.guard rfl rfl (fun _ => ?_) (fun _ => ?_) <;> refine Sq.ev tab_ok rfl rfl ?_) | (refine Tr.cond rfl (fun _ => ?_) (fun _ => ?_) <;> try (rename_i h; cases h; done)) | refine Tr.block ?_ | refine Tr.skip ?_ | refine Tr.ret ⟨_, rfl, ?_⟩)
  refine Sq.callv rfl (hcat) ?_
  repeat' (first | refine Tr.seq ?_ | refine Tr.region ?_ | refine Sq.ev tab_ok rfl rfl ?_ | refine Sq.nil ?_ | (refine Sq.guard rfl rfl (fun _ => ?_) (fun _ => ?_) <;> refine Sq.ev tab_ok rfl rfl ?_) | (refine Tr.cond rfl (fun _ => ?_) (fun _ => ?_) <;> try (rename_i h; cases h; done)) | refine Tr.block ?_ | refine Tr.skip ?_ | refine Tr.ret ⟨_, rfl, ?_⟩)
  generalize orR a b = r at *
  refine Tr.loopS (fun i : Nat => [(.s 4, .ptr (.l 4) 0), (.l 4, .blk 25 [.own 46 []]), (.s 6, .ptr (.l 6) 0), (.l 6, .blk 25 [.own 46 ((r.take i).map cmpsT)]), (.s 23, .tr (.ls (r.map cmpsT))), (.s 24, int (r.map cmpsT).length), (.s 25, int i)])
    (fun i => r.length - i) (fun i => i ≤ r.length) 0 (by omega) (Sub.app (l := [_, _, _, _, _, _, _]) (H := []) ⟨rfl, rfl, rfl, rfl, rfl, rfl, rfl, trivial⟩ (fun κ v h => nomatch h)) ?_
  rintro i hi
  repeat' (first | refine Tr.seq ?_ | refine Tr.region ?_ | refine Sq.ev tab_ok rfl rfl ?_ | refine Sq.nil ?_ | (refine Sq.guard rfl rfl (fun _ => ?_) (fun _ => ?_) <;> refine Sq.ev tab_ok rfl rfl ?_) | (refine Tr.cond rfl (fun _ => ?_) (fun _ => ?_) <;> try (rename_i h; cases h; done)) | refine Tr.block ?_ | refine Tr.skip ?_ | refine Tr.ret ⟨_, rfl, ?_⟩)
  · rename_i h
    have hlt : i < r.length := by simp only [List.length_map, decide_eq_true_eq] at h; omega
    obtain ⟨l, hl⟩ : ∃ l, r[i] = l := ⟨_, rfl⟩
    have hlm : l ∈ r := hl ▸ List.getElem_mem hlt
    have he : (r.map cmpsT)[i]? = some (cmpsT l) := by rw [List.getElem?_map, List.getElem?_eq_getElem hlt, hl]; rfl
    have hl20 := lr l hlm
    have hcl := cloneCmps Cmp.t (fun c => rfl) l (by omega)
    refine Sq.index (x := cmpsT l) tab_ok rfl (by omega) (by simpa using he) rfl ?_
    repeat' (first | refine Tr.seq ?_ | refine Tr.region ?_ | refine Sq.ev tab_ok rfl rfl ?_ | refine Sq.nil ?_ | (refine Sq.guard rfl rfl (fun _ => ?_) (fun _ => ?_) <;> refine Sq.ev tab_ok rfl rfl ?_) | (refine Tr.cond rfl (fun _ => ?_) (fun _ => ?_) <;> try (rename_i h; cases h; done)) | refine Tr.block ?_ | refine Tr.skip ?_ | refine Tr.ret ⟨_, rfl, ?_⟩)
    refine Tr.drawn ( DSq.ev tab_ok rfl rfl <| DSq.ev tab_ok rfl rfl <| DSq.ev tab_ok rfl rfl <| DSq.call rfl (fun _ => rfl) (hcl) <| DSq.ev tab_ok rfl rfl <| DSq.two rfl (fun q K hK => Sq.append tab_ok rfl (by intro y hy; simp only [List.mem_singleton] at hy; subst hy; rfl) (by simp; omega) (Sq.nil hK)) <| DSq.ev tab_ok rfl rfl <| DSq.ev tab_ok rfl rfl <| DSq.nil _) mix_ok rfl ?_
    repeat' (first | refine Tr.seq ?_ | refine Tr.region ?_ | refine Sq.ev tab_ok rfl rfl ?_ | refine Sq.nil ?_ | (refine Sq.guard rfl rfl (fun _ => ?_) (fun _ => ?_) <;> refine Sq.ev tab_ok rfl rfl ?_) | (refine Tr.cond rfl (fun _ => ?_) (fun _ => ?_) <;> try (rename_i h; cases h; done)) | refine Tr.block ?_ | refine Tr.skip ?_ | refine Tr.ret ⟨_, rfl, ?_⟩)
    exact ⟨i + 1, by omega, by omega, Sub.app (l := [_, _, _, _, _, _, _]) (H := []) ⟨rfl, rfl, rfl, congrArg some (congrArg (fun x => AV.blk _ [AV.own _ x]) (by rw [List.take_succ_eq_append_getElem hlt, hl]; simp)), rfl, rfl, congrArg some (wrapz (by omega) (by omega) (by omega)), trivial⟩ (fun κ v h => nomatch h)⟩
  · rename_i h
    have hge : r.length ≤ i := by simp only [List.length_map, decide_eq_false_iff_not] at h; omega
    rw [List.take_of_length_le hge]
    refine Tr.exit ?_
    repeat' (first | refine Tr.seq ?_ | refine Tr.region ?_ | refine Sq.ev tab_ok rfl rfl ?_ | refine Sq.nil ?_ | (refine Sq.guard rfl rfl (fun _ => ?_) (fun _ => ?_) <;> refine Sq.ev tab_ok rfl rfl ?_) | (refine Tr.cond rfl (fun _ => ?_) (fun _ => ?_) <;> try (rename_i h; cases h; done)) | refine Tr.block ?_ | refine Tr.skip ?_ | refine Tr.ret ⟨_, rfl, ?_⟩)
    unfold boundV at hlast ⊢
    cases hs : smallR r
    · rw [hs] at hlast
      refine Sq.callv rfl (hlast) ?_
      repeat' (first | refine Tr.seq ?_ | refine Tr.region ?_ | refine Sq.ev tab_ok rfl rfl ?_ | refine Sq.nil ?_ | (refine Sq.guard rfl rfl (fun _ => ?_) (fun _ => ?_) <;> refine Sq.ev tab_ok rfl rfl ?_) | (refine Tr.cond rfl (fun _ => ?_) (fun _ => ?_) <;> try (rename_i h; cases h; done)) | refine Tr.block ?_ | refine Tr.skip ?_ | refine Tr.ret ⟨_, rfl, ?_⟩)
      rfl
    · rw [hs] at hlast
      refine Sq.callv rfl (hlast) ?_
      repeat' (first | refine Tr.seq ?_ | refine Tr.region ?_ | refine Sq.ev tab_ok rfl rfl ?_ | refine Sq.nil ?_ | (refine Sq.guard rfl rfl (fun _ => ?_) (fun _ => ?_) <;> refine Sq.ev tab_ok rfl rfl ?_) | (refine Tr.cond rfl (fun _ => ?_) (fun _ => ?_) <;> try (rename_i h; cases h; done)) | refine Tr.block ?_ | refine Tr.skip ?_ | refine Tr.ret ⟨_, rfl, ?_⟩)
      rfl
end Go.Lg.Tryz

set_option linter.unusedVariables false
set_option linter.unusedSimpArgs false
namespace Go.Lg.Tryz
open Go Go.Proofs Go.RowKit Go.Lib Go.Lg.Sem
theorem maxz (x y : Nat) : (if ((y : Nat) : Int) > ((x : Nat) : Int) then ((y : Nat) : Int) else ((x : Nat) : Int)) = ((max x y : Nat) : Int) := by
  split <;> omega
set_option maxRecDepth 8192 in
theorem RangesAnd_ok (a b : Rng) (v : Ver) : Fn Tryz.prog Gw 9 [.tr (rngT a), .tr (rngT b), .tr (Ver.t v)] [] (· = bool true) := by
  refine Fn.of tab_ok Tryz.func9 rfl (by decide) (by simp [Tryz.f9]) rfl (fun κ v h => by cases h) Gw.below ?_
  repeat' (first | refine Tr.seq ?_ | refine Tr.region ?_ | refine Sq.ev tab_ok rfl rfl ?_ | refine Sq.nil ?_ | (refine Sq.guard rfl rfl (fun _ => ?_) (fun _ => ?_) <;> refine Sq.ev tab_ok rfl rfl ?_) | (refine Tr.cond rfl (fun _ => ?_) (fun _ => ?_) <;> try (rename_i h; cases h; done)) | refine Tr.block ?_ | refine Tr.skip ?_ | refine Tr.ret ⟨_, rfl, ?_⟩)
  refine Sq.callv rfl (anchor_ok) ?_
  repeat' (first | refine Tr.seq ?_ | refine Tr.region ?_ | refine Sq.ev tab_ok rfl rfl ?_ | refine Sq.nil ?_ | (refine Sq.guard rfl rfl (fun _ => ?_) (fun _ => ?_) <;> refine Sq.ev tab_ok rfl rfl ?_) | (refine Tr.cond rfl (fun _ => ?_) (fun _ => ?_) <;> try (rename_i h; cases h; done)) | refine Tr.block ?_ | refine Tr.skip ?_ | refine Tr.ret ⟨_, rfl, ?_⟩)
  refine Sq.call rfl (plain_ok a) ?_
  rintro _ ⟨qa, rfl, hqa⟩
  repeat' (first | refine Tr.seq ?_ | refine Tr.region ?_ | refine Sq.ev tab_ok rfl rfl ?_ | refine Sq.nil ?_ | (refine Sq.guard rfl rfl (fun _ => ?_) (fun _ => ?_) <;> refine Sq.ev tab_ok rfl rfl ?_) | (refine Tr.cond rfl (fun _ => ?_) (fun _ => ?_) <;> try (rename_i h; cases h; done)) | refine Tr.block ?_ | refine Tr.skip ?_ | refine Tr.ret ⟨_, rfl, ?_⟩)
  refine Sq.call rfl (plain_ok b) ?_
  rintro _ ⟨qb, rfl, hqb⟩
  repeat' (first | refine Tr.seq ?_ | refine Tr.region ?_ | refine Sq.ev tab_ok rfl rfl ?_ | refine Sq.nil ?_ | (refine Sq.guard rfl rfl (fun _ => ?_) (fun _ => ?_) <;> refine Sq.ev tab_ok rfl rfl ?_) | (refine Tr.cond rfl (fun _ => ?_) (fun _ => ?_) <;> try (rename_i h; cases h; done)) | refine Tr.block ?_ | refine Tr.skip ?_ | refine Tr.ret ⟨_, rfl, ?_⟩)
  · rfl
  · rfl
  · rfl
  rename_i pa pb h100
  have pa : plainR 20 a = true := by simpa using pa
  have pb : plainR 20 b = true := by simpa using pb
  have ea := (hqa pa).symm
  have eb := (hqb pb).symm
  subst ea
  subst eb
  clear hqa hqb
  have hv : v.ok := by
    have := of_decide_eq_false h100
    show v.p.size ≤ 1000000000
    omega
  obtain ⟨oa, na, la⟩ := plain_ok_of pa (by omega)
  obtain ⟨ob, nb, lb⟩ := plain_ok_of pb (by omega)
  have hA := And_ok a b oa ob na nb la lb
  have hO := Or_ok a b oa ob na nb la lb
  have ra := refRngRight_ok a oa (by omega)
  have rb := refRngRight_ok b ob (by omega)
  cases r1 : rngRight a
  · rw [r1, Bool.false_and] at hA hO
    rw [r1] at ra
    refine Sq.callv rfl (hA) ?_
    repeat' (first | refine Tr.seq ?_ | refine Tr.region ?_ | refine Sq.ev tab_ok rfl rfl ?_ | refine Sq.nil ?_ | (refine Sq.guard rfl rfl (fun _ => ?_) (fun _ => ?_) <;> refine Sq.ev tab_ok rfl rfl ?_) | (refine Tr.cond rfl (fun _ => ?_) (fun _ => ?_) <;> try (rename_i h; cases h; done)) | refine Tr.block ?_ | refine Tr.skip ?_ | refine Tr.ret ⟨_, rfl, ?_⟩)
    refine Sq.callv rfl (hO) ?_
    repeat' (first | refine Tr.seq ?_ | refine Tr.region ?_ | refine Sq.ev tab_ok rfl rfl ?_ | refine Sq.nil ?_ | (refine Sq.guard rfl rfl (fun _ => ?_) (fun _ => ?_) <;> refine Sq.ev tab_ok rfl rfl ?_) | (refine Tr.cond rfl (fun _ => ?_) (fun _ => ?_) <;> try (rename_i h; cases h; done)) | refine Tr.block ?_ | refine Tr.skip ?_ | refine Tr.ret ⟨_, rfl, ?_⟩)
    refine Sq.callv rfl (ra) ?_
    repeat' (first | refine Tr.seq ?_ | refine Tr.region ?_ | refine Sq.ev tab_ok rfl rfl ?_ | refine Sq.nil ?_ | (refine Sq.guard rfl rfl (fun _ => ?_) (fun _ => ?_) <;> refine Sq.ev tab_ok rfl rfl ?_) | (refine Tr.cond rfl (fun _ => ?_) (fun _ => ?_) <;> try (rename_i h; cases h; done)) | refine Tr.block ?_ | refine Tr.skip ?_ | refine Tr.ret ⟨_, rfl, ?_⟩)
    rfl
  cases r2 : rngRight b
  · rw [r1, r2, Bool.true_and] at hA hO
    rw [r1] at ra
    rw [r2] at rb
    refine Sq.callv rfl (hA) ?_
    repeat' (first | refine Tr.seq ?_ | refine Tr.region ?_ | refine Sq.ev tab_ok rfl rfl ?_ | refine Sq.nil ?_ | (refine Sq.guard rfl rfl (fun _ => ?_) (fun _ => ?_) <;> refine Sq.ev tab_ok rfl rfl ?_) | (refine Tr.cond rfl (fun _ => ?_) (fun _ => ?_) <;> try (rename_i h; cases h; done)) | refine Tr.block ?_ | refine Tr.skip ?_ | refine Tr.ret ⟨_, rfl, ?_⟩)
    refine Sq.callv rfl (hO) ?_
    repeat' (first | refine Tr.seq ?_ | refine Tr.region ?_ | refine Sq.ev tab_ok rfl rfl ?_ | refine Sq.nil ?_ | (refine Sq.guard rfl rfl (fun _ => ?_) (fun _ => ?_) <;> refine Sq.ev tab_ok rfl rfl ?_) | (refine Tr.cond rfl (fun _ => ?_) (fun _ => ?_) <;> try (rename_i h; cases h; done)) | refine Tr.block ?_ | refine Tr.skip ?_ | refine Tr.ret ⟨_, rfl, ?_⟩)
    refine Sq.callv rfl (ra) ?_
    repeat' (first | refine Tr.seq ?_ | refine Tr.region ?_ | refine Sq.ev tab_ok rfl rfl ?_ | refine Sq.nil ?_ | (refine Sq.guard rfl rfl (fun _ => ?_) (fun _ => ?_) <;> refine Sq.ev tab_ok rfl rfl ?_) | (refine Tr.cond rfl (fun _ => ?_) (fun _ => ?_) <;> try (rename_i h; cases h; done)) | refine Tr.block ?_ | refine Tr.skip ?_ | refine Tr.ret ⟨_, rfl, ?_⟩)
    refine Sq.callv rfl (rb) ?_
    repeat' (first | refine Tr.seq ?_ | refine Tr.region ?_ | refine Sq.ev tab_ok rfl rfl ?_ | refine Sq.nil ?_ | (refine Sq.guard rfl rfl (fun _ => ?_) (fun _ => ?_) <;> refine Sq.ev tab_ok rfl rfl ?_) | (refine Tr.cond rfl (fun _ => ?_) (fun _ => ?_) <;> try (rename_i h; cases h; done)) | refine Tr.block ?_ | refine Tr.skip ?_ | refine Tr.ret ⟨_, rfl, ?_⟩)
    rfl
  rw [r1, r2, Bool.true_and] at hA hO
  rw [r1] at ra
  rw [r2] at rb
  have ha := hasR_ok a v oa (by omega) hv
  have hb := hasR_ok b v ob (by omega) hv
  obtain ⟨x, e, hA, ke, kx, hx⟩ : ∃ (x : Rng) (e : Int), Fn Tryz.prog Gw 24 [.tr (rngT a), .tr (rngT b)] [] (· = .tup [rngArg x, int e]) ∧ (e = if a.length * b.length ≤ 8 ∧ mostR 0 a b ≤ 8 then 0 else 11) ∧ (e = 0 → x.length = a.length * b.length) ∧
      (e = 0 → Fn Tryz.prog Gw 16 [.tr (rngT x), .tr (Ver.t v)] [] (· = bool (hasR a v && hasR b v))) ∧ (e ≠ 0 → x = []) := by
    have hs := small_and a b
    unfold boundV at hA
    rw [if_pos rfl] at hA
    cases h : smallR (andR a b)
    · rw [h, if_neg (by decide)] at hA
      rw [h] at hs
      have : ¬ (a.length * b.length ≤ 8 ∧ mostR 0 a b ≤ 8) := fun ⟨h1, h2⟩ => by rw [decide_eq_true h1, decide_eq_true h2] at hs; cases hs
      exact ⟨_, _, hA, by rw [if_neg this], by omega, by omega, fun _ => rfl⟩
    · rw [h, if_pos rfl] at hA
      rw [h] at hs
      have hs' := hs.symm
      rw [Bool.and_eq_true, decide_eq_true_eq, decide_eq_true_eq] at hs'
      refine ⟨_, _, hA, by rw [if_pos hs'], fun _ => andR_len a b, fun _ => ?_, fun h => absurd rfl h⟩
      rw [← has_and v r1 r2 h]
      exact hasR_ok _ v (ok_and oa ob (fun l hl => by have := la l hl; omega) (fun l hl => by have := lb l hl; omega)) (by rw [andR_len]; omega) hv
  obtain ⟨hx1, hx2⟩ := hx
  obtain ⟨y, f, hO, kf, ky, hy1, hy2⟩ : ∃ (y : Rng) (f : Int), Fn Tryz.prog Gw 25 [.tr (rngT a), .tr (rngT b)] [] (· = .tup [rngArg y, int f]) ∧ (f = if a.length + b.length ≤ 8 then 0 else 11) ∧ (f = 0 → y.length = a.length + b.length) ∧
      (f = 0 → Fn Tryz.prog Gw 16 [.tr (rngT y), .tr (Ver.t v)] [] (· = bool (hasR a v || hasR b v))) ∧ (f ≠ 0 → y = []) := by
    have hs := small_or r1 r2
    unfold boundV at hO
    rw [if_pos rfl] at hO
    cases h : smallR (orR a b)
    · rw [h, if_neg (by decide)] at hO
      rw [h] at hs
      have : ¬ (a.length + b.length ≤ 8) := fun h1 => by rw [decide_eq_true h1] at hs; cases hs
      exact ⟨_, _, hO, by rw [if_neg this], by omega, by omega, fun _ => rfl⟩
    · rw [h, if_pos rfl] at hO
      rw [h] at hs
      have hs' := of_decide_eq_true hs.symm
      refine ⟨_, _, hO, by rw [if_pos hs'], fun _ => by unfold orR; rw [List.length_append], fun _ => ?_, fun h => absurd rfl h⟩
      rw [← has_or v r1 r2 h]
      exact hasR_ok _ v (ok_or oa ob) (by unfold orR; rw [List.length_append]; omega) hv
  generalize hasR a v = ba at *
  generalize hasR b v = bb at *
  have hmul : a.length * b.length ≤ 400 := by have := Nat.mul_le_mul na nb; omega
  have hmost : ∀ k : Nat, k ≤ 40 → ∀ i, mostR k (a.take i) b ≤ 40 := fun k hk i => mostR_bound b 40 _ k hk (fun l hl m hm => by have := la l (List.mem_of_mem_take hl); have := lb m hm; omega)
  refine Sq.callv rfl (hA) ?_
  repeat' (first | refine Tr.seq ?_ | refine Tr.region ?_ | refine Sq.ev tab_ok rfl rfl ?_ | refine Sq.nil ?_ | (refine Sq.guard rfl rfl (fun _ => ?_) (fun _ => ?_) <;> refine Sq.ev tab_ok rfl rfl ?_) | (refine Tr.cond rfl (fun _ => ?_) (fun _ => ?_) <;> try (rename_i h; cases h; done)) | refine Tr.block ?_ | refine Tr.skip ?_ | refine Tr.ret ⟨_, rfl, ?_⟩)
  refine Sq.callv rfl (hO) ?_
  repeat' (first | refine Tr.seq ?_ | refine Tr.region ?_ | refine Sq.ev tab_ok rfl rfl ?_ | refine Sq.nil ?_ | (refine Sq.guard rfl rfl (fun _ => ?_) (fun _ => ?_) <;> refine Sq.ev tab_ok rfl rfl ?_) | (refine Tr.cond rfl (fun _ => ?_) (fun _ => ?_) <;> try (rename_i h; cases h; done)) | refine Tr.block ?_ | refine Tr.skip ?_ | refine Tr.ret ⟨_, rfl, ?_⟩)
  refine Sq.callv rfl (ra) ?_
  repeat' (first | refine Tr.seq ?_ | refine Tr.region ?_ | refine Sq.ev tab_ok rfl rfl ?_ | refine Sq.nil ?_ | (refine Sq.guard rfl rfl (fun _ => ?_) (fun _ => ?_) <;> refine Sq.ev tab_ok rfl rfl ?_) | (refine Tr.cond rfl (fun _ => ?_) (fun _ => ?_) <;> try (rename_i h; cases h; done)) | refine Tr.block ?_ | refine Tr.skip ?_ | refine Tr.ret ⟨_, rfl, ?_⟩)
  refine Sq.callv rfl (rb) ?_
  refine Sq.ev tab_ok rfl rfl ?_
  refine Sq.ev tab_ok rfl rfl ?_
  refine Sq.nil ?_
  (refine Tr.cond rfl (fun _ => ?_) (fun _ => ?_) <;> try (rename_i h; cases h; done))
  refine Tr.skip ?_
  refine Tr.seq ?_
  refine Tr.region ?_
  refine Sq.ev tab_ok rfl rfl ?_
  refine Sq.nil ?_
  let S0 : Store := [(.s 3, .ptr (.l 3) 0), (.l 3, .blk 25 [.tr (.ls (a.map cmpsT))]), (.s 4, .ptr (.l 4) 0), (.l 4, .blk 25 [.tr (.ls (b.map cmpsT))]), (.s 5, .ptr (.l 5) 0), (.l 5, .blk 38 [int v.a, int v.b, int v.c, str v.p]),
    (.s 7, .ptr (.l 7) 0), (.l 7, .blk 31 [.tr (.ls (a.map cmpsT))]), (.s 9, .ptr (.l 9) 0), (.l 9, .blk 31 [.tr (.ls (b.map cmpsT))]),
    (.s 11, .ptr (.l 11) 0), (.l 11, .blk 25 [.tr (.ls (x.map cmpsT))]), (.s 12, int e), (.s 13, .ptr (.l 13) 0), (.l 13, .blk 25 [.tr (.ls (y.map cmpsT))]), (.s 14, int f)]
  refine Tr.cut (S0 ++ [(.s 15, int (mostR 0 a b : Nat))]) ?_ ?_
  · repeat' (first | refine Tr.seq ?_ | refine Tr.region ?_ | refine Sq.ev tab_ok rfl rfl ?_ | refine Sq.nil ?_ | (refine Sq.guard rfl rfl (fun _ => ?_) (fun _ => ?_) <;> refine Sq.ev tab_ok rfl rfl ?_) | (refine Tr.cond rfl (fun _ => ?_) (fun _ => ?_) <;> try (rename_i h; cases h; done)) | refine Tr.block ?_ | refine Tr.skip ?_ | refine Tr.ret ⟨_, rfl, ?_⟩)
    refine Tr.loopS (fun i : Nat => S0 ++ [(.s 15, int (mostR 0 (a.take i) b : Nat)), (.s 83, .tr (.ls (a.map cmpsT))), (.s 84, int (a.map cmpsT).length), (.s 85, int i)]) (fun i => a.length - i) (fun i => i ≤ a.length)
      0 (by omega) (Sub.app (l := [_, _, _, _, _, _, _, _, _, _, _, _, _, _, _, _, _, _, _, _]) (H := []) ⟨rfl, rfl, rfl, rfl, rfl, rfl, rfl, rfl, rfl, rfl, rfl, rfl, rfl, rfl, rfl, rfl, rfl, rfl, rfl, rfl, trivial⟩ (fun κ v h => nomatch h)) ?_
    rintro i hi
    repeat' (first | refine Tr.seq ?_ | refine Tr.region ?_ | refine Sq.ev tab_ok rfl rfl ?_ | refine Sq.nil ?_ | (refine Sq.guard rfl rfl (fun _ => ?_) (fun _ => ?_) <;> refine Sq.ev tab_ok rfl rfl ?_) | (refine Tr.cond rfl (fun _ => ?_) (fun _ => ?_) <;> try (rename_i h; cases h; done)) | refine Tr.block ?_ | refine Tr.skip ?_ | refine Tr.ret ⟨_, rfl, ?_⟩)
    · rename_i h
      have hlt : i < a.length := by simp only [List.length_map, decide_eq_true_eq] at h; omega
      obtain ⟨l, hl⟩ : ∃ l, a[i] = l := ⟨_, rfl⟩
      have hlm : l ∈ a := hl ▸ List.getElem_mem hlt
      have he : (a.map cmpsT)[i]? = some (cmpsT l) := by rw [List.getElem?_map, List.getElem?_eq_getElem hlt, hl]; rfl
      have hl20 := la l hlm
      have hst : mostR 0 (a.take (i + 1)) b = mostL l (mostR 0 (a.take i) b) b := by
        rw [List.take_succ_eq_append_getElem hlt, hl]; unfold mostR; rw [List.foldl_append]; rfl
      have hm0 := hmost 0 (by omega) i
      generalize mostR 0 (a.take i) b = k0 at *
      refine Sq.index (x := cmpsT l) tab_ok rfl (by omega) (by simpa using he) rfl ?_
      repeat' (first | refine Tr.seq ?_ | refine Tr.region ?_ | refine Sq.ev tab_ok rfl rfl ?_ | refine Sq.nil ?_ | (refine Sq.guard rfl rfl (fun _ => ?_) (fun _ => ?_) <;> refine Sq.ev tab_ok rfl rfl ?_) | (refine Tr.cond rfl (fun _ => ?_) (fun _ => ?_) <;> try (rename_i h; cases h; done)) | refine Tr.block ?_ | refine Tr.skip ?_ | refine Tr.ret ⟨_, rfl, ?_⟩)
      refine Tr.loopS (fun k : Nat => S0 ++ [(.s 15, int (mostL l k0 (b.take k) : Nat)), (.s 83, .tr (.ls (a.map cmpsT))), (.s 84, int (a.map cmpsT).length), (.s 85, int i), (.s 17, .tr (cmpsT l)), (.s 90, .tr (.ls (b.map cmpsT))), (.s 91, int (b.map cmpsT).length), (.s 92, int k)]) (fun k => b.length - k) (fun k => k ≤ b.length)
        0 (by omega) (Sub.app (l := [_, _, _, _, _, _, _, _, _, _, _, _, _, _, _, _, _, _, _, _, _, _, _, _]) (H := []) ⟨rfl, rfl, rfl, rfl, rfl, rfl, rfl, rfl, rfl, rfl, rfl, rfl, rfl, rfl, rfl, rfl, rfl, rfl, rfl, rfl, rfl, rfl, rfl, rfl, trivial⟩ (fun κ v h => nomatch h)) ?_
      rintro k hk
      repeat' (first | refine Tr.seq ?_ | refine Tr.region ?_ | refine Sq.ev tab_ok rfl rfl ?_ | refine Sq.nil ?_ | (refine Sq.guard rfl rfl (fun _ => ?_) (fun _ => ?_) <;> refine Sq.ev tab_ok rfl rfl ?_) | (refine Tr.cond rfl (fun _ => ?_) (fun _ => ?_) <;> try (rename_i h; cases h; done)) | refine Tr.block ?_ | refine Tr.skip ?_ | refine Tr.ret ⟨_, rfl, ?_⟩)
      · rename_i h5
        have hk2 : k < b.length := by simp only [List.length_map, decide_eq_true_eq] at h5; omega
        obtain ⟨m, hm⟩ : ∃ m, b[k] = m := ⟨_, rfl⟩
        have hmm : m ∈ b := hm ▸ List.getElem_mem hk2
        have hm20 := lb m hmm
        have hce : (b.map cmpsT)[k]? = some (cmpsT m) := by rw [List.getElem?_map, List.getElem?_eq_getElem hk2, hm]; rfl
        have step : mostL l k0 (b.take (k + 1)) = max (mostL l k0 (b.take k)) (l.length + m.length) := by
          rw [List.take_succ_eq_append_getElem hk2, hm]; unfold mostL; rw [List.foldl_append]; rfl
        refine Sq.index (x := cmpsT m) tab_ok rfl (by omega) (by simpa using hce) rfl ?_
        repeat' (first | refine Tr.seq ?_ | refine Tr.region ?_ | refine Sq.ev tab_ok rfl rfl ?_ | refine Sq.nil ?_ | (refine Sq.guard rfl rfl (fun _ => ?_) (fun _ => ?_) <;> refine Sq.ev tab_ok rfl rfl ?_) | (refine Tr.cond rfl (fun _ => ?_) (fun _ => ?_) <;> try (rename_i h; cases h; done)) | refine Tr.block ?_ | refine Tr.skip ?_ | refine Tr.ret ⟨_, rfl, ?_⟩)
        refine Sq.re (wrapz (z := ((l.length + m.length : Nat) : Int)) (by simp) (by omega) (by omega)) ?_
        refine Sq.minmax rfl ?_
        repeat' (first | refine Tr.seq ?_ | refine Tr.region ?_ | refine Sq.ev tab_ok rfl rfl ?_ | refine Sq.nil ?_ | (refine Sq.guard rfl rfl (fun _ => ?_) (fun _ => ?_) <;> refine Sq.ev tab_ok rfl rfl ?_) | (refine Tr.cond rfl (fun _ => ?_) (fun _ => ?_) <;> try (rename_i h; cases h; done)) | refine Tr.block ?_ | refine Tr.skip ?_ | refine Tr.ret ⟨_, rfl, ?_⟩)
        refine ⟨k + 1, by omega, by omega, Sub.app (l := [_, _, _, _, _, _, _, _, _, _, _, _, _, _, _, _, _, _, _, _, _, _, _, _]) (H := []) ⟨rfl, rfl, rfl, rfl, rfl, rfl, rfl, rfl, rfl, rfl, rfl, rfl, rfl, rfl, rfl, rfl, congrArg some (congrArg int ?_), rfl, rfl, rfl, rfl, rfl, rfl, congrArg some (wrapz (by omega) (by omega) (by omega)), trivial⟩ (fun κ v h => nomatch h)⟩
        rw [step]; exact maxz _ _
      · rename_i h5
        have hk2 : b.length ≤ k := by simp only [List.length_map, decide_eq_false_iff_not] at h5; omega
        rw [List.take_of_length_le hk2, ← hst]
        refine Tr.exit ?_
        repeat' (first | refine Tr.seq ?_ | refine Tr.region ?_ | refine Sq.ev tab_ok rfl rfl ?_ | refine Sq.nil ?_ | (refine Sq.guard rfl rfl (fun _ => ?_) (fun _ => ?_) <;> refine Sq.ev tab_ok rfl rfl ?_) | (refine Tr.cond rfl (fun _ => ?_) (fun _ => ?_) <;> try (rename_i h; cases h; done)) | refine Tr.block ?_ | refine Tr.skip ?_ | refine Tr.ret ⟨_, rfl, ?_⟩)
        exact ⟨i + 1, by omega, by omega, Sub.app (l := [_, _, _, _, _, _, _, _, _, _, _, _, _, _, _, _, _, _, _, _]) (H := []) ⟨rfl, rfl, rfl, rfl, rfl, rfl, rfl, rfl, rfl, rfl, rfl, rfl, rfl, rfl, rfl, rfl, rfl, rfl, rfl, congrArg some (wrapz (by omega) (by omega) (by omega)), trivial⟩ (fun κ v h => nomatch h)⟩
    · rename_i h
      have hge : a.length ≤ i := by simp only [List.length_map, decide_eq_false_iff_not] at h; omega
      rw [List.take_of_length_le hge]
      refine Tr.exit ?_
      exact SubL.sub (m' := S0 ++ [_]) ⟨rfl, rfl, rfl, rfl, rfl, rfl, rfl, rfl, rfl, rfl, rfl, rfl, rfl, rfl, rfl, rfl, rfl, trivial⟩
  generalize mostR 0 a b = M at *
  refine Tr.cut (S0 ++ [(.s 15, int (M : Nat)), (.s 20, int (a.length * b.length : Nat)), (.s 21, int (a.length + b.length : Nat))]) ?_ ?_
  · refine Tr.drawn ( DSq.ev tab_ok rfl rfl <| DSq.ev tab_ok rfl rfl <| DSq.ev tab_ok rfl rfl <| DSq.ev tab_ok rfl rfl <| DSq.ev tab_ok rfl rfl <| DSq.ev tab_ok rfl rfl <| DSq.evr tab_ok rfl (wrapz (z := ((a.length * b.length : Nat) : Int)) (by rw [List.length_map, List.length_map]; exact (Int.natCast_mul _ _).symm) (by omega) (by omega)) <| DSq.ev tab_ok rfl rfl <| DSq.ev tab_ok rfl rfl <| DSq.ev tab_ok rfl rfl <| DSq.ev tab_ok rfl rfl <| DSq.ev tab_ok rfl rfl <| DSq.ev tab_ok rfl rfl <| DSq.evr tab_ok rfl (wrapz (z := ((a.length + b.length : Nat) : Int)) (by rw [List.length_map, List.length_map]; omega) (by omega) (by omega)) <| DSq.ev tab_ok rfl rfl <| DSq.ev tab_ok rfl rfl <| DSq.nil _) mix_ok rfl ?_
    repeat' (first | refine Tr.seq ?_ | refine Tr.region ?_ | refine Sq.ev tab_ok rfl rfl ?_ | refine Sq.nil ?_ | (refine Sq.guard rfl rfl (fun _ => ?_) (fun _ => ?_) <;> refine Sq.ev tab_ok rfl rfl ?_) | (refine Tr.cond rfl (fun _ => ?_) (fun _ => ?_) <;> try (rename_i h; cases h; done)) | refine Tr.block ?_ | refine Tr.skip ?_ | refine Tr.ret ⟨_, rfl, ?_⟩)
    exact SubL.sub (m' := S0 ++ [_, _, _]) ⟨rfl, rfl, rfl, rfl, rfl, rfl, rfl, rfl, rfl, rfl, rfl, rfl, rfl, rfl, rfl, rfl, rfl, rfl, rfl, trivial⟩
  generalize a.length * b.length = N at *
  generalize a.length + b.length = N2 at *
  have ce : (e = 0 ∧ N ≤ 8 ∧ M ≤ 8) ∨ (e = 11 ∧ ¬ (N ≤ 8 ∧ M ≤ 8) ∧ x = []) := by
    by_cases h : N ≤ 8 ∧ M ≤ 8
    · rw [if_pos h] at ke; exact .inl ⟨ke, h⟩
    · rw [if_neg h] at ke; exact .inr ⟨ke, h, hx2 (by omega)⟩
  have cf : (f = 0 ∧ N2 ≤ 8) ∨ (f = 11 ∧ ¬ N2 ≤ 8 ∧ y = []) := by
    by_cases h : N2 ≤ 8
    · rw [if_pos h] at kf; exact .inl ⟨kf, h⟩
    · rw [if_neg h] at kf; exact .inr ⟨kf, h, hy2 (by omega)⟩
  clear ke kf hx2 hy2
  refine Tr.cut (S0 ++ [(.s 15, int (M : Nat)), (.s 20, int (N : Nat)), (.s 21, int (N2 : Nat))]) ?_ ?_
  · clear hA hO ra rb ha hb hx1 hy1 kx ky oa ob la lb hmost pa pb hv h100
    rcases ce with ⟨rfl, n8, m8⟩ | ⟨rfl, nm8, rfl⟩ <;> rcases cf with ⟨rfl, p8⟩ | ⟨rfl, np8, rfl⟩
    all_goals repeat' (first | refine Tr.seq ?_ | refine Tr.region ?_ | refine Sq.ev tab_ok rfl rfl ?_ | refine Sq.nil ?_ | (refine Sq.guard rfl rfl (fun _ => ?_) (fun _ => ?_) <;> refine Sq.ev tab_ok rfl rfl ?_) | (refine Tr.cond rfl (fun _ => ?_) (fun _ => ?_) <;> try (rename_i h; cases h; done)) | refine Tr.block ?_ | refine Tr.skip ?_ | refine Tr.ret ⟨_, rfl, ?_⟩)
    all_goals first
      | exact SubL.sub (m' := S0 ++ [_, _, _]) ⟨rfl, rfl, rfl, rfl, rfl, rfl, rfl, rfl, rfl, rfl, rfl, rfl, rfl, rfl, rfl, rfl, rfl, rfl, rfl, trivial⟩
      | skip
    all_goals exfalso
    all_goals clear S0
    all_goals simp_all
    all_goals omega
  refine Tr.cut (S0 ++ [(.s 15, int (M : Nat)), (.s 20, int (N : Nat)), (.s 21, int (N2 : Nat))]) ?_ ?_
  · rcases ce with ⟨rfl, n8, m8⟩ | ⟨rfl, nm8, rfl⟩
    · have hxl : ((((x.map cmpsT).length : Nat) : Int) != ((N : Nat) : Int)) = false := by rw [List.length_map, kx rfl]; simp
      have hX := hx1 rfl
      refine Tr.seq ?_
      cases ba
      · rw [Bool.false_and] at hX
        refine Tr.drawn ( DSq.ev tab_ok rfl rfl <| DSq.ev tab_ok rfl rfl <| DSq.ev tab_ok rfl rfl <| DSq.ev tab_ok rfl rfl <| DSq.ev tab_ok rfl rfl <| DSq.ev tab_ok rfl rfl <| DSq.ev tab_ok rfl rfl <| DSq.evr tab_ok rfl (congrArg bool hxl) <| DSq.ev tab_ok rfl rfl <| DSq.ev tab_ok rfl rfl <| DSq.ev tab_ok rfl rfl <| DSq.call rfl (fun _ => rfl) (hX) <| DSq.ev tab_ok rfl rfl <| DSq.ev tab_ok rfl rfl <| DSq.call rfl (fun _ => rfl) (ha) <| DSq.ev tab_ok rfl rfl <| DSq.ev tab_ok rfl rfl <| DSq.ev tab_ok rfl rfl <| DSq.ev tab_ok rfl rfl <| DSq.ev tab_ok rfl rfl <| DSq.ev tab_ok rfl rfl <| DSq.ev tab_ok rfl rfl <| DSq.ev tab_ok rfl rfl <| DSq.nil _) mix_ok rfl ?_
        repeat' (first | refine Tr.seq ?_ | refine Tr.region ?_ | refine Sq.ev tab_ok rfl rfl ?_ | refine Sq.nil ?_ | (refine Sq.guard rfl rfl (fun _ => ?_) (fun _ => ?_) <;> refine Sq.ev tab_ok rfl rfl ?_) | (refine Tr.cond rfl (fun _ => ?_) (fun _ => ?_) <;> try (rename_i h; cases h; done)) | refine Tr.block ?_ | refine Tr.skip ?_ | refine Tr.ret ⟨_, rfl, ?_⟩)
        exact SubL.sub (m' := S0 ++ [_, _, _]) ⟨rfl, rfl, rfl, rfl, rfl, rfl, rfl, rfl, rfl, rfl, rfl, rfl, rfl, rfl, rfl, rfl, rfl, rfl, rfl, trivial⟩
      · rw [Bool.true_and] at hX
        refine Tr.drawn ( DSq.ev tab_ok rfl rfl <| DSq.ev tab_ok rfl rfl <| DSq.ev tab_ok rfl rfl <| DSq.ev tab_ok rfl rfl <| DSq.ev tab_ok rfl rfl <| DSq.ev tab_ok rfl rfl <| DSq.ev tab_ok rfl rfl <| DSq.evr tab_ok rfl (congrArg bool hxl) <| DSq.ev tab_ok rfl rfl <| DSq.ev tab_ok rfl rfl <| DSq.ev tab_ok rfl rfl <| DSq.call rfl (fun _ => rfl) (hX) <| DSq.ev tab_ok rfl rfl <| DSq.ev tab_ok rfl rfl <| DSq.call rfl (fun _ => rfl) (ha) <| DSq.ev tab_ok rfl rfl <| DSq.ev tab_ok rfl rfl <| DSq.ev tab_ok rfl rfl <| DSq.call rfl (fun _ => rfl) (hb) <| DSq.ev tab_ok rfl rfl <| DSq.ev tab_ok rfl rfl <| DSq.ev tab_ok rfl rfl <| DSq.ev tab_ok rfl rfl <| DSq.nil _) mix_ok rfl ?_
        repeat' (first | refine Tr.seq ?_ | refine Tr.region ?_ | refine Sq.ev tab_ok rfl rfl ?_ | refine Sq.nil ?_ | (refine Sq.guard rfl rfl (fun _ => ?_) (fun _ => ?_) <;> refine Sq.ev tab_ok rfl rfl ?_) | (refine Tr.cond rfl (fun _ => ?_) (fun _ => ?_) <;> try (rename_i h; cases h; done)) | refine Tr.block ?_ | refine Tr.skip ?_ | refine Tr.ret ⟨_, rfl, ?_⟩)
        · rename_i h; cases bb <;> cases h
        · exact SubL.sub (m' := S0 ++ [_, _, _]) ⟨rfl, rfl, rfl, rfl, rfl, rfl, rfl, rfl, rfl, rfl, rfl, rfl, rfl, rfl, rfl, rfl, rfl, rfl, rfl, trivial⟩
    · refine Tr.seq ?_
      refine Tr.drawn ( DSq.ev tab_ok rfl rfl <| DSq.ev tab_ok rfl rfl <| DSq.ev tab_ok rfl rfl <| DSq.ev tab_ok rfl rfl <| DSq.ev tab_ok rfl rfl <| DSq.ev tab_ok rfl rfl <| DSq.ev tab_ok rfl rfl <| DSq.ev tab_ok rfl rfl <| DSq.ev tab_ok rfl rfl <| DSq.ev tab_ok rfl rfl <| DSq.ev tab_ok rfl rfl <| DSq.ev tab_ok rfl rfl <| DSq.ev tab_ok rfl rfl <| DSq.ev tab_ok rfl rfl <| DSq.ev tab_ok rfl rfl <| DSq.ev tab_ok rfl rfl <| DSq.ev tab_ok rfl rfl <| DSq.ev tab_ok rfl rfl <| DSq.ev tab_ok rfl rfl <| DSq.ev tab_ok rfl rfl <| DSq.ev tab_ok rfl rfl <| DSq.ev tab_ok rfl rfl <| DSq.ev tab_ok rfl rfl <| DSq.nil _) mix_ok rfl ?_
      repeat' (first | refine Tr.seq ?_ | refine Tr.region ?_ | refine Sq.ev tab_ok rfl rfl ?_ | refine Sq.nil ?_ | (refine Sq.guard rfl rfl (fun _ => ?_) (fun _ => ?_) <;> refine Sq.ev tab_ok rfl rfl ?_) | (refine Tr.cond rfl (fun _ => ?_) (fun _ => ?_) <;> try (rename_i h; cases h; done)) | refine Tr.block ?_ | refine Tr.skip ?_ | refine Tr.ret ⟨_, rfl, ?_⟩)
      exact SubL.sub (m' := S0 ++ [_, _, _]) ⟨rfl, rfl, rfl, rfl, rfl, rfl, rfl, rfl, rfl, rfl, rfl, rfl, rfl, rfl, rfl, rfl, rfl, rfl, rfl, trivial⟩
  rcases cf with ⟨rfl, p8⟩ | ⟨rfl, np8, rfl⟩
  · have hyl : ((((y.map cmpsT).length : Nat) : Int) == ((N2 : Nat) : Int)) = true := by rw [List.length_map, ky rfl]; simp
    have hY := hy1 rfl
    refine Tr.seq ?_
    cases ba
    · rw [Bool.false_or] at hY
      refine Tr.drawn ( DSq.ev tab_ok rfl rfl <| DSq.ev tab_ok rfl rfl <| DSq.ev tab_ok rfl rfl <| DSq.ev tab_ok rfl rfl <| DSq.ev tab_ok rfl rfl <| DSq.ev tab_ok rfl rfl <| DSq.ev tab_ok rfl rfl <| DSq.evr tab_ok rfl (congrArg bool hyl) <| DSq.ev tab_ok rfl rfl <| DSq.ev tab_ok rfl rfl <| DSq.ev tab_ok rfl rfl <| DSq.call rfl (fun _ => rfl) (hY) <| DSq.ev tab_ok rfl rfl <| DSq.ev tab_ok rfl rfl <| DSq.call rfl (fun _ => rfl) (ha) <| DSq.ev tab_ok rfl rfl <| DSq.ev tab_ok rfl rfl <| DSq.ev tab_ok rfl rfl <| DSq.call rfl (fun _ => rfl) (hb) <| DSq.ev tab_ok rfl rfl <| DSq.ev tab_ok rfl rfl <| DSq.ev tab_ok rfl rfl <| DSq.ev tab_ok rfl rfl <| DSq.ev tab_ok rfl rfl <| DSq.nil _) mix_ok rfl ?_
      repeat' (first | refine Tr.seq ?_ | refine Tr.region ?_ | refine Sq.ev tab_ok rfl rfl ?_ | refine Sq.nil ?_ | (refine Sq.guard rfl rfl (fun _ => ?_) (fun _ => ?_) <;> refine Sq.ev tab_ok rfl rfl ?_) | (refine Tr.cond rfl (fun _ => ?_) (fun _ => ?_) <;> try (rename_i h; cases h; done)) | refine Tr.block ?_ | refine Tr.skip ?_ | refine Tr.ret ⟨_, rfl, ?_⟩)
      show bool _ = bool _
      simp
    · rw [Bool.true_or] at hY
      refine Tr.drawn ( DSq.ev tab_ok rfl rfl <| DSq.ev tab_ok rfl rfl <| DSq.ev tab_ok rfl rfl <| DSq.ev tab_ok rfl rfl <| DSq.ev tab_ok rfl rfl <| DSq.ev tab_ok rfl rfl <| DSq.ev tab_ok rfl rfl <| DSq.evr tab_ok rfl (congrArg bool hyl) <| DSq.ev tab_ok rfl rfl <| DSq.ev tab_ok rfl rfl <| DSq.ev tab_ok rfl rfl <| DSq.call rfl (fun _ => rfl) (hY) <| DSq.ev tab_ok rfl rfl <| DSq.ev tab_ok rfl rfl <| DSq.call rfl (fun _ => rfl) (ha) <| DSq.ev tab_ok rfl rfl <| DSq.ev tab_ok rfl rfl <| DSq.ev tab_ok rfl rfl <| DSq.ev tab_ok rfl rfl <| DSq.ev tab_ok rfl rfl <| DSq.ev tab_ok rfl rfl <| DSq.ev tab_ok rfl rfl <| DSq.ev tab_ok rfl rfl <| DSq.ev tab_ok rfl rfl <| DSq.nil _) mix_ok rfl ?_
      repeat' (first | refine Tr.seq ?_ | refine Tr.region ?_ | refine Sq.ev tab_ok rfl rfl ?_ | refine Sq.nil ?_ | (refine Sq.guard rfl rfl (fun _ => ?_) (fun _ => ?_) <;> refine Sq.ev tab_ok rfl rfl ?_) | (refine Tr.cond rfl (fun _ => ?_) (fun _ => ?_) <;> try (rename_i h; cases h; done)) | refine Tr.block ?_ | refine Tr.skip ?_ | refine Tr.ret ⟨_, rfl, ?_⟩)
      rfl
  · refine Tr.seq ?_
    refine Tr.drawn ( DSq.ev tab_ok rfl rfl <| DSq.ev tab_ok rfl rfl <| DSq.ev tab_ok rfl rfl <| DSq.ev tab_ok rfl rfl <| DSq.ev tab_ok rfl rfl <| DSq.ev tab_ok rfl rfl <| DSq.ev tab_ok rfl rfl <| DSq.ev tab_ok rfl rfl <| DSq.ev tab_ok rfl rfl <| DSq.ev tab_ok rfl rfl <| DSq.ev tab_ok rfl rfl <| DSq.ev tab_ok rfl rfl <| DSq.ev tab_ok rfl rfl <| DSq.ev tab_ok rfl rfl <| DSq.ev tab_ok rfl rfl <| DSq.ev tab_ok rfl rfl <| DSq.ev tab_ok rfl rfl <| DSq.ev tab_ok rfl rfl <| DSq.ev tab_ok rfl rfl <| DSq.ev tab_ok rfl rfl <| DSq.ev tab_ok rfl rfl <| DSq.ev tab_ok rfl rfl <| DSq.ev tab_ok rfl rfl <| DSq.ev tab_ok rfl rfl <| DSq.nil _) mix_ok rfl ?_
    repeat' (first | refine Tr.seq ?_ | refine Tr.region ?_ | refine Sq.ev tab_ok rfl rfl ?_ | refine Sq.nil ?_ | (refine Sq.guard rfl rfl (fun _ => ?_) (fun _ => ?_) <;> refine Sq.ev tab_ok rfl rfl ?_) | (refine Tr.cond rfl (fun _ => ?_) (fun _ => ?_) <;> try (rename_i h; cases h; done)) | refine Tr.block ?_ | refine Tr.skip ?_ | refine Tr.ret ⟨_, rfl, ?_⟩)
    rfl
end Go.Lg.Tryz

set_option linter.unusedSimpArgs false
set_option linter.unusedVariables false
namespace Go.Lg.Tryz
open Go Go.Proofs Go.Proofs.YtckeeefeiljamaaGreatDoor Go.ChangeShapes Go.WideShapes Go.ChangeAt Go.RowKit Go.Joins Go.Lg.Sem

def theLaid : List (String × DataW Unit) := Rows.rangesParsesRow.laid
theorem own : ownKnob Tryz.prog.godebug = none := by kernel_rfl
theorem laidOut : laidOutB Tryz.prog = true := by kernel_rfl

/-- Go's own table as cells. -/
def firstCells : Array Value := match Go.Pinned.utf8First with
  | .agg l => (l.map fun | .lit (.int k n) => Value.int k n | _ => undef).toArray
  | _ => #[]
/-- A world that meets the condition: the heap that the door's run leaves, and the one pinned table. -/
noncomputable def laidWorld (os : Os) : World :=
  let w0 := World.doorLaid Tryz.prog 72 os
  { w0 with heap := w0.heap.modify 0 fun
      | .cells _ t frozen => .cells firstCells t frozen
      | o => o }
set_option maxRecDepth 100000 in
theorem laidWorld_met (os : Os) (args : Array Value) : laidMetH Tryz.prog theLaid ((laidWorld os).forCall (fun _ _ => 0) ⟨#[], args, []⟩).memory :=
  laidMetH_of_parts3 (fuel := 8) (laidMet_of_run' 8 (by kernel_rfl) (by kernel_rfl)) (by kernel_rfl) (by kernel_rfl)
theorem laidWorld_os (os : Os) : (laidWorld os).os = os := rfl

set_option maxRecDepth 100000 in
theorem laidWorld_shaped (os : Os) (args : Array Value) : ((laidWorld os).forCall (fun _ _ => 0) ⟨#[], args, []⟩).Shaped Tryz.prog :=
  World.shaped_of_RefB (by kernel_rfl) (by kernel_rfl)

/-- What the condition and the world's shape give. -/
theorem gw_of {W : World} (hs : W.ShapedOpen Tryz.prog) (h : laidMetH Tryz.prog theLaid W) : Gw W := by
  rw [MakeChecks.laidMetH_plain _ _ _ (by kernel_rfl)] at h
  have h2 : laidMet Tryz.prog (("internal/strconv.uint64pow10", Lib.tabData .u64 Lib.pow10Tab) :: theLaid.drop 3) W := h.tail.tail
  have ht := Lib.tabIs_of_head tab_at (t := 177) (e := 158) (n := 20) (by kernel_rfl) Tryz.underlying177 Tryz.underlying158 (by kernel_rfl) (by kernel_rfl) h2
  obtain ⟨m, hm⟩ := cell_of_shapedOpen_int (g := 2) (zero := #[.int .i64 0]) (t := 3) hs (of_decide_eq_true (by kernel_rfl)) (by kernel_rfl) rfl (by kernel_rfl) (by kernel_rfl) Tryz.underlying3
  refine ⟨⟨m, hm⟩, ht, ?_⟩
  have := ht
  unfold Lib.TabIs World.var? at this
  rw [tab_at, Option.bind_some] at this
  cases hb : W.heap[5]? with
  | none => rw [hb] at this; cases this
  | some o => have := (Array.getElem?_eq_some_iff.1 hb).1; omega

/-- The kit's two ways in one: the condition's extra part and the world's shape, both handed to the contract. -/
theorem returns_both {H : Type} {enc : TypeId × Value → H} {a : Assume} {C : Checked} {os : Os} {f : FuncId} {fn : Func} {s : ChangeSpec} {conds : List PathCond} {apart fresh handsOn again : Bool} {X : World → Array Value → Prop}
    (hX : ∀ (w w' : World) (args : Array Value), w.heap = w'.heap → X w args → X w' args)
    (own : ownKnob C.prog.godebug = none) (started : os.Started) (noInit : C.prog.inits.idxOf? f = none) (hfn : C.prog.funcs[f]? = some fn)
    (witness : ∃ (w : World) (tape : Tape) (i : Input), w.os = os ∧ (w.forCall tape i).Shaped C.prog ∧ i.vars = [] ∧ Input.okWide C.prog (w.forCall tape i) .any w.heap.size f i ∧
      ((s.pre enc C.prog fn conds apart (w.forCall tape i).memory i.args ∧ X (w.forCall tape i).memory i.args) ∧ sizedMet enc C.prog fn (OpenSpec.ofChange s) apart (w.forCall tape i).memory i.args) ∧ a.holds C.prog (lone (Frame.enter C.prog f i.args .normal) [] (w.forCall tape i)))
    (contract : ∀ (W : World) (base : Nat) (args : Array Value) (ds gs : List (DataW H)) (before : List MemPlace),
      (∀ (j : Nat) t v, fn.params[j]? = some t → args[j]? = some v → Value.okWide C.prog W .any base t v) →
      DataW.Whole enc C.prog fn.params.toList s.vars apart W args.toList ds gs before →
      (DataW.weightsEach C.prog (fn.params.toList ++ s.plain.varTypes C.prog) (ds ++ gs)).all (· ≤ reachBytes) = true → X W args → W.ShapedOpen C.prog →
      Calls C.prog f args W fun e W' => ∃ v, e = .returned v ∧ s.post enc C.prog fn apart fresh handsOn again W args v W') :
    ReturnsInHanded a C os f .any (fun w args => (s.pre enc C.prog fn conds apart w args ∧ X w args) ∧ sizedMet enc C.prog fn (OpenSpec.ofChange s) apart w args) (s.post enc C.prog fn apart fresh handsOn again) := by
  refine returnsInHanded_of_calls own started noInit witness ?_
  intro w tape i _ hsh _ hok hpre hholds
  obtain ⟨_, _, _, fn', hfn', _, _, _, _, hval⟩ := hok
  obtain rfl := Option.some.inj (hfn'.symm.trans hfn)
  obtain ⟨⟨⟨ds, gs, before, hw, hc⟩, hx⟩, hz⟩ := hpre
  have hw' := DataW.Whole.of_heap (w' := w.forCall tape i) (by rfl) hw
  refine (contract (w.forCall tape i) w.heap.size i.args ds gs before hval hw' (hz.weights hw) (hX _ _ _ (by rfl) hx) hsh).mono fun e W' ⟨v, he, hp⟩ => ?_
  subst he
  exact ChangeSpec.post_blind hp
section
variable {H : Type} {enc : TypeId × Value → H} {W : World}
theorem stays {t : TypeId} (hr : (Tryz.prog).readableRec t = true) (hrow : t < (Tryz.prog).types.size) {W' : World} {v : Value} {d : DataW H} {p : List MemPlace} (h : DataW.Trod enc Tryz.prog W 0 (fun _ => true) true t v d p) (hb : Below W.heap.size W W') (hlt : ∀ x ∈ p, x.block < W.heap.size) :
    DataW.Trod enc Tryz.prog W' 0 (fun b => decide (b < W.heap.size)) true t v d p := hb.trod laidOut hr hrow h hlt
theorem opens_ver : Opens enc Tryz.prog W 38 (fun v : Ver => [.sc (.int .i64 v.a), .sc (.int .i64 v.b), .sc (.int .i64 v.c), .sc (.string v.p)]) :=
  (opens_struct Tryz.underlying38 (by kernel_rfl) (OpensF.cons rfl (k := 1) (by kernel_rfl) (opens_int Tryz.underlying3) (OpensF.cons rfl (k := 1) (by kernel_rfl) (opens_int Tryz.underlying3) (OpensF.cons rfl (k := 1) (by kernel_rfl) (opens_int Tryz.underlying3)
    (OpensF.cons rfl (k := 1) (by kernel_rfl) (opens_string Tryz.underlying9) OpensF.nil))))).map (fun p : Int × Int × Int × ByteArray × Unit => ⟨p.1, p.2.1, p.2.2.1, p.2.2.2.1⟩) (fun p => rfl)
theorem opens_verS : Opens enc Tryz.prog W 38 (fun v : {v : Ver // v.p.size < 9223372036854775808} => [.sc (.int .i64 v.1.a), .sc (.int .i64 v.1.b), .sc (.int .i64 v.1.c), .sc (.string v.1.p)]) :=
  (opens_struct Tryz.underlying38 (by kernel_rfl) (OpensF.cons rfl (k := 1) (by kernel_rfl) (opens_int Tryz.underlying3) (OpensF.cons rfl (k := 1) (by kernel_rfl) (opens_int Tryz.underlying3) (OpensF.cons rfl (k := 1) (by kernel_rfl) (opens_int Tryz.underlying3)
    (OpensF.cons rfl (k := 1) (by kernel_rfl) (opens_stringS Tryz.underlying9) OpensF.nil))))).map (fun p : Int × Int × Int × {s : ByteArray // s.size < 9223372036854775808} × Unit => ⟨⟨p.1, p.2.1, p.2.2.1, p.2.2.2.1.1⟩, p.2.2.2.1.2⟩) (fun p => rfl)
theorem opens_comp : Opens enc Tryz.prog W 48 (fun c : Cmp => [.sc (.int .i64 c.op), .sc (.int .i64 c.v.a), .sc (.int .i64 c.v.b), .sc (.int .i64 c.v.c), .sc (.string c.v.p)]) :=
  (opens_struct Tryz.underlying48 (by kernel_rfl) (OpensF.cons rfl (k := 1) (by kernel_rfl) (opens_int Tryz.underlying3) (OpensF.cons rfl (k := 4) (by kernel_rfl) opens_ver OpensF.nil))).map (fun p : Int × Ver × Unit => ⟨p.1, p.2.1⟩) (fun p => rfl)
noncomputable instance : Inhabited Cmp := ⟨Cmp.zero⟩
theorem opens_comps : Opens enc Tryz.prog W 46 (fun l : List Cmp => [cmpsT l]) :=
  opens_slice Cmp.t (fun c => rfl) Tryz.underlying46 (fun c => by rw [show (Tryz.prog).cellsOf 48 = 5 by kernel_rfl]; rfl) (by rw [show (Tryz.prog).cellsOf 48 = 5 by kernel_rfl]; omega) opens_comp
theorem opens_rng : Opens enc Tryz.prog W 25 (fun r : Rng => [.ls (r.map cmpsT)]) :=
  (opens_struct Tryz.underlying25 (by kernel_rfl) (OpensF.cons rfl (k := 1) (by kernel_rfl) (opens_slice cmpsT (fun l => rfl) Tryz.underlying23 (fun c => by rw [show (Tryz.prog).cellsOf 46 = 1 by kernel_rfl]; rfl) (by rw [show (Tryz.prog).cellsOf 46 = 1 by kernel_rfl]; omega) opens_comps) OpensF.nil)).map
    (fun p : Rng × Unit => p.1) (fun p => rfl)
end
end Go.Lg.Tryz
