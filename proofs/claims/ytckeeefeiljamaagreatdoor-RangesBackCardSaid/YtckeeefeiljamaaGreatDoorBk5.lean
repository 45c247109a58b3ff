/- Words and laws that the theorem leans on (part 5). -/
import Derived.Test.YtckeeefeiljamaaGreatDoorBk1
import Derived.Test.YtckeeefeiljamaaGreatDoorBk2
import Derived.Test.YtckeeefeiljamaaGreatDoorBk3
import Derived.Test.YtckeeefeiljamaaGreatDoorBk4
import Derived.Lib.SplitLaws
import Derived.Lib.CutLaws
import Derived.Lib.ItoaNum
import Derived.Lib.Join
import Derived.Laws.Cover3
import Derived.Laws.BytesArg
import Derived.Test.YtckeeefeiljamaaGreatDoorRows
import Derived.Carry
import Derived.Lib.SmallJoins
import Derived.LaidMore
import Derived.PinnedBridge
import Derived.HandedShaped
import Derived.ProofKit
import Derived.OpenShut
import Derived.ShutString
import Derived.SizedLaws
import Derived.Stop.LaidErr
import Derived.Stop.Joined
import Derived.Shelf.Vars
import Derived.Lib.LaidTab
import Derived.MakeChecks

set_option linter.unusedVariables false
set_option linter.unusedSimpArgs false
namespace Go.Lg.Tryz
open Go Go.Proofs Go.RowKit Go.Lib Go.Lg.Sem
theorem bounded1_ok (l : List Cmp) : Fn Tryz.prog Gw 65 [.tr (cmpsT l)] [] (· = bool (decide ((l.length : Int) > 8))) := by
  refine Fn.of tab_ok Tryz.func65 rfl (by decide) (by simp [Tryz.f65]) rfl (fun κ v h => by cases h) Gw.below ?_
  repeat' (first | refine Tr.seq ?_ | refine Tr.region ?_ | refine Sq.ev tab_ok rfl rfl ?_ | refine Sq.nil ?_ | (refine Sq.guard rfl rfl (fun _ => ?_) (fun _ => ?_) <;> refine Sq.ev tab_ok rfl rfl ?_) | (refine Tr.cond rfl (fun _ => ?_) (fun _ => ?_) <;> try (rename_i h; cases h; done)) | refine Tr.block ?_ | refine Tr.skip ?_ | refine Tr.ret ⟨_, rfl, ?_⟩)
  show bool _ = bool _
  simp
theorem bounded_ok (r : Rng) (hn : r.length ≤ 1073741824) : Fn Tryz.prog Gw 45 [.tr (rngT r)] [] (· = if smallR r = true then .tup [rngArg r, int 0] else .tup [rngArg [], int 11]) := by
  have hc : Fn Tryz.prog Gw 33 [.tr (.ls (r.map cmpsT)), .fn 65 []] [] (· = bool (r.any fun l => decide ((l.length : Int) > 8))) :=
    containsCmps _ [] [] cmpsT _ (fun x h => nomatch h) noH (fun κ ty cells h => nomatch h) r (fun l hl => ⟨cmps_el l, bounded1_ok l⟩) hn
  have hs : smallR r = (decide (r.length ≤ 8) && !(r.any fun l => decide ((l.length : Int) > 8))) := by
    unfold smallR
    congr 1
    rw [Bool.eq_iff_iff, Bool.not_eq_true', ← Bool.not_eq_true, List.any_eq_true, List.all_eq_true]
    constructor
    · rintro h ⟨l, hl, h2⟩
      have := h l hl
      simp only [decide_eq_true_eq] at this h2; omega
    · intro h l hl
      simp only [decide_eq_true_eq]
      rcases Nat.lt_or_ge 8 l.length with h2 | h2
      · exact absurd ⟨l, hl, by simp only [decide_eq_true_eq]; omega⟩ h
      · exact h2
  refine Fn.of tab_ok Tryz.func45 rfl (by decide) (by simp [Tryz.f45]) rfl (fun κ v h => by cases h) Gw.below ?_
  repeat' (first | refine Tr.seq ?_ | refine Tr.region ?_ | refine Sq.ev tab_ok rfl rfl ?_ | refine Sq.nil ?_ | (refine Sq.guard rfl rfl (fun _ => ?_) (fun _ => ?_) <;> refine Sq.ev tab_ok rfl rfl ?_) | (refine Tr.cond rfl (fun _ => ?_) (fun _ => ?_) <;> try (rename_i h; cases h; done)) | refine Tr.block ?_ | refine Tr.skip ?_ | refine Tr.ret ⟨_, rfl, ?_⟩)
  all_goals first | (refine Sq.callv rfl hc ?_) | skip
  all_goals repeat' (first | refine Tr.seq ?_ | refine Tr.region ?_ | refine Sq.ev tab_ok rfl rfl ?_ | refine Sq.nil ?_ | (refine Sq.guard rfl rfl (fun _ => ?_) (fun _ => ?_) <;> refine Sq.ev tab_ok rfl rfl ?_) | (refine Tr.cond rfl (fun _ => ?_) (fun _ => ?_) <;> try (rename_i h; cases h; done)) | refine Tr.block ?_ | refine Tr.skip ?_ | refine Tr.ret ⟨_, rfl, ?_⟩)
  all_goals rename_i h1 h2
  · simp only [List.length_map, decide_eq_true_eq] at h1
    rw [if_neg (by rw [hs, decide_eq_false (by omega)]; simp)]; rfl
  · rw [if_neg (by rw [hs, h2]; simp)]; rfl
  · simp only [List.length_map, decide_eq_false_iff_not] at h1
    rw [if_pos (by rw [hs, h2, decide_eq_true (by omega)]; rfl)]
theorem Plain_ok (r : Rng) (hr : r.ok) (hn : r.length ≤ 1000) (hl : ∀ l, l ∈ r → l.length ≤ 1000) : Fn Tryz.prog Gw 21 [.tr (rngT r)] [] (· = if rngRight r = true then (if smallR (saidR r) = true then .tup [rngArg (saidR r), int 0] else .tup [rngArg [], int 11]) else .tup [rngArg [], int 12]) := by
  refine Fn.of tab_ok Tryz.func21 rfl (by decide) (by simp [Tryz.f21]) rfl (fun κ v h => by cases h) Gw.below ?_
  repeat' (first | refine Tr.seq ?_ | refine Tr.region ?_ | refine Sq.ev tab_ok rfl rfl ?_ | refine Sq.nil ?_ | (refine Sq.guard rfl rfl (fun _ => ?_) (fun _ => ?_) <;> refine Sq.ev tab_ok rfl rfl ?_) | (refine Tr.cond rfl (fun _ => ?_) (fun _ => ?_) <;> try (rename_i h; cases h; done)) | refine Tr.block ?_ | refine Tr.skip ?_ | refine Tr.ret ⟨_, rfl, ?_⟩)
  refine Sq.callv rfl (rngRight_ok r hr (by omega)) ?_
  repeat' (first | refine Tr.seq ?_ | refine Tr.region ?_ | refine Sq.ev tab_ok rfl rfl ?_ | refine Sq.nil ?_ | (refine Sq.guard rfl rfl (fun _ => ?_) (fun _ => ?_) <;> refine Sq.ev tab_ok rfl rfl ?_) | (refine Tr.cond rfl (fun _ => ?_) (fun _ => ?_) <;> try (rename_i h; cases h; done)) | refine Tr.block ?_ | refine Tr.skip ?_ | refine Tr.ret ⟨_, rfl, ?_⟩)
  · rename_i h
    have : rngRight r = false := by simpa using h
    rw [if_neg (by rw [this]; decide)]; rfl
  · rename_i h
    have : rngRight r = true := by simpa using h
    rw [if_pos this]
    have hlast := bounded_ok (saidR r) (by simp [saidR]; omega)
    refine Tr.loopS (fun i : Nat => [(.s 2, .ptr (.l 2) 0), (.l 2, .blk 25 [.own 46 []]), (.s 4, .ptr (.l 4) 0), (.l 4, .blk 25 [.own 46 ((saidR (r.take i)).map cmpsT)]), (.s 17, .tr (.ls (r.map cmpsT))), (.s 18, int (r.map cmpsT).length), (.s 19, int i)]) (fun i => r.length - i)
      (fun i => i ≤ r.length)
      0 (by omega) (Sub.app (l := [_, _, _, _, _, _, _]) (H := []) ⟨rfl, rfl, rfl, rfl, rfl, rfl, rfl, trivial⟩ (fun κ v h => nomatch h)) ?_
    rintro i hi
    repeat' (first | refine Tr.seq ?_ | refine Tr.region ?_ | refine Sq.ev tab_ok rfl rfl ?_ | refine Sq.nil ?_ | (refine Sq.guard rfl rfl (fun _ => ?_) (fun _ => ?_) <;> refine Sq.ev tab_ok rfl rfl ?_) | (refine Tr.cond rfl (fun _ => ?_) (fun _ => ?_) <;> try (rename_i h; cases h; done)) | refine Tr.block ?_ | refine Tr.skip ?_ | refine Tr.ret ⟨_, rfl, ?_⟩)
    · rename_i h
      have hlt : i < r.length := by simp only [List.length_map, decide_eq_true_eq] at h; omega
      have hll := hl r[i] (List.getElem_mem hlt)
      have hlo := (hr r[i] (List.getElem_mem hlt)).2
      obtain ⟨l, hl⟩ : ∃ l, r[i] = l := ⟨_, rfl⟩
      have he : (r.map cmpsT)[i]? = some (cmpsT l) := by rw [List.getElem?_map, List.getElem?_eq_getElem hlt, hl]; rfl
      rw [hl] at hll hlo
      refine Sq.index (x := cmpsT l) tab_ok rfl (by omega) (by simpa using he) rfl ?_
      repeat' (first | refine Tr.seq ?_ | refine Tr.region ?_ | refine Sq.ev tab_ok rfl rfl ?_ | refine Sq.nil ?_ | (refine Sq.guard rfl rfl (fun _ => ?_) (fun _ => ?_) <;> refine Sq.ev tab_ok rfl rfl ?_) | (refine Tr.cond rfl (fun _ => ?_) (fun _ => ?_) <;> try (rename_i h; cases h; done)) | refine Tr.block ?_ | refine Tr.skip ?_ | refine Tr.ret ⟨_, rfl, ?_⟩)
      refine Tr.loopS (fun k : Nat => [(.s 2, .ptr (.l 2) 0), (.l 2, .blk 25 [.own 46 []]), (.s 4, .ptr (.l 4) 0), (.l 4, .blk 25 [.own 46 ((saidR (r.take i)).map cmpsT)]), (.s 17, .tr (.ls (r.map cmpsT))), (.s 18, int (r.map cmpsT).length), (.s 19, int i),
          (.s 7, .own 48 (((l.take k).flatMap saidC).map Cmp.t)), (.s 23, .tr (.ls (l.map Cmp.t))), (.s 24, int (l.map Cmp.t).length), (.s 25, int k)]) (fun k => l.length - k)
        (fun k => k ≤ l.length)
        0 (by omega) (Sub.app (l := [_, _, _, _, _, _, _, _, _, _, _]) (H := []) ⟨rfl, rfl, rfl, rfl, rfl, rfl, rfl, rfl, rfl, rfl, rfl, trivial⟩ (fun κ v h => nomatch h)) ?_
      rintro k hk
      have hsl := said_len (l.take k)
      rw [List.length_take] at hsl
      repeat' (first | refine Tr.seq ?_ | refine Tr.region ?_ | refine Sq.ev tab_ok rfl rfl ?_ | refine Sq.nil ?_ | (refine Sq.guard rfl rfl (fun _ => ?_) (fun _ => ?_) <;> refine Sq.ev tab_ok rfl rfl ?_) | (refine Tr.cond rfl (fun _ => ?_) (fun _ => ?_) <;> try (rename_i h; cases h; done)) | refine Tr.block ?_ | refine Tr.skip ?_ | refine Tr.ret ⟨_, rfl, ?_⟩)
      · rename_i h5
        have hk2 : k < l.length := by simp only [List.length_map, decide_eq_true_eq] at h5; omega
        obtain ⟨c, hc⟩ : ∃ c, l[k] = c := ⟨_, rfl⟩
        have hcm : c ∈ l := hc ▸ List.getElem_mem hk2
        have hce : (l.map Cmp.t)[k]? = some (Cmp.t c) := by rw [List.getElem?_map, List.getElem?_eq_getElem hk2, hc]; rfl
        have step : (l.take (k + 1)).flatMap saidC = (l.take k).flatMap saidC ++ saidC c := by rw [List.take_succ_eq_append_getElem hk2, List.flatMap_append, hc]; simp
        refine Sq.index (x := Cmp.t c) tab_ok rfl (by omega) (by simpa using hce) rfl ?_
        repeat' (first | refine Tr.seq ?_ | refine Tr.region ?_ | refine Sq.ev tab_ok rfl rfl ?_ | refine Sq.nil ?_ | (refine Sq.guard rfl rfl (fun _ => ?_) (fun _ => ?_) <;> refine Sq.ev tab_ok rfl rfl ?_) | (refine Tr.cond rfl (fun _ => ?_) (fun _ => ?_) <;> try (rename_i h; cases h; done)) | refine Tr.block ?_ | refine Tr.skip ?_ | refine Tr.ret ⟨_, rfl, ?_⟩)
        all_goals (refine Sq.append tab_ok rfl (by intro y hy; simp only [List.mem_singleton] at hy; subst hy; rfl) (by simp at hsl ⊢; omega) ?_)
        all_goals repeat' (first | refine Tr.seq ?_ | refine Tr.region ?_ | refine Sq.ev tab_ok rfl rfl ?_ | refine Sq.nil ?_ | (refine Sq.guard rfl rfl (fun _ => ?_) (fun _ => ?_) <;> refine Sq.ev tab_ok rfl rfl ?_) | (refine Tr.cond rfl (fun _ => ?_) (fun _ => ?_) <;> try (rename_i h; cases h; done)) | refine Tr.block ?_ | refine Tr.skip ?_ | refine Tr.ret ⟨_, rfl, ?_⟩)
        · rename_i h6
          have hs : saidC c = [c] := by unfold saidC; rw [if_pos (by simpa using h6)]
          refine Tr.exit ?_
          repeat' (first | refine Tr.seq ?_ | refine Tr.region ?_ | refine Sq.ev tab_ok rfl rfl ?_ | refine Sq.nil ?_ | (refine Sq.guard rfl rfl (fun _ => ?_) (fun _ => ?_) <;> refine Sq.ev tab_ok rfl rfl ?_) | (refine Tr.cond rfl (fun _ => ?_) (fun _ => ?_) <;> try (rename_i h; cases h; done)) | refine Tr.block ?_ | refine Tr.skip ?_ | refine Tr.ret ⟨_, rfl, ?_⟩)
          exact ⟨k + 1, by omega, by omega, Sub.app (l := [_, _, _, _, _, _, _, _, _, _, _]) (H := []) ⟨rfl, rfl, rfl, rfl, rfl, rfl, rfl, congrArg some (congrArg (AV.own _) (by rw [step, List.map_append, hs]; rfl)), rfl, rfl, congrArg some (wrapz (by omega) (by omega) (by omega)), trivial⟩ (fun κ v h => nomatch h)⟩
        · rename_i h6
          have h6 : ¬ c.op < 6 := by simpa using h6
          refine Sq.callv rfl (upper_ok c (hlo c hcm)) ?_
          repeat' (first | refine Tr.seq ?_ | refine Tr.region ?_ | refine Sq.ev tab_ok rfl rfl ?_ | refine Sq.nil ?_ | (refine Sq.guard rfl rfl (fun _ => ?_) (fun _ => ?_) <;> refine Sq.ev tab_ok rfl rfl ?_) | (refine Tr.cond rfl (fun _ => ?_) (fun _ => ?_) <;> try (rename_i h; cases h; done)) | refine Tr.block ?_ | refine Tr.skip ?_ | refine Tr.ret ⟨_, rfl, ?_⟩)
          · rename_i h7
            have hs : saidC c = [⟨5, c.v⟩, ⟨2, (upperV c).1⟩] := by unfold saidC; rw [if_neg h6, if_pos h7]
            refine Sq.append tab_ok rfl (by intro y hy; simp only [List.mem_singleton] at hy; subst hy; rfl) (by simp at hsl ⊢; omega) ?_
            repeat' (first | refine Tr.seq ?_ | refine Tr.region ?_ | refine Sq.ev tab_ok rfl rfl ?_ | refine Sq.nil ?_ | (refine Sq.guard rfl rfl (fun _ => ?_) (fun _ => ?_) <;> refine Sq.ev tab_ok rfl rfl ?_) | (refine Tr.cond rfl (fun _ => ?_) (fun _ => ?_) <;> try (rename_i h; cases h; done)) | refine Tr.block ?_ | refine Tr.skip ?_ | refine Tr.ret ⟨_, rfl, ?_⟩)
            exact ⟨k + 1, by omega, by omega, Sub.app (l := [_, _, _, _, _, _, _, _, _, _, _]) (H := []) ⟨rfl, rfl, rfl, rfl, rfl, rfl, rfl, congrArg some (congrArg (AV.own _) (by rw [step, List.map_append, hs]; simp)), rfl, rfl, congrArg some (wrapz (by omega) (by omega) (by omega)), trivial⟩ (fun κ v h => nomatch h)⟩
          · rename_i h7
            have hs : saidC c = [⟨5, c.v⟩] := by unfold saidC; rw [if_neg h6, if_neg (by rw [h7]; decide)]
            exact ⟨k + 1, by omega, by omega, Sub.app (l := [_, _, _, _, _, _, _, _, _, _, _]) (H := []) ⟨rfl, rfl, rfl, rfl, rfl, rfl, rfl, congrArg some (congrArg (AV.own _) (by rw [step, List.map_append, hs]; rfl)), rfl, rfl, congrArg some (wrapz (by omega) (by omega) (by omega)), trivial⟩ (fun κ v h => nomatch h)⟩
      · rename_i h5
        have hk2 : l.length ≤ k := by simp only [List.length_map, decide_eq_false_iff_not] at h5; omega
        rw [List.take_of_length_le hk2]
        refine Tr.exit ?_
        repeat' (first | refine Tr.seq ?_ | refine Tr.region ?_ | refine Sq.ev tab_ok rfl rfl ?_ | refine Sq.nil ?_ | (refine Sq.guard rfl rfl (fun _ => ?_) (fun _ => ?_) <;> refine Sq.ev tab_ok rfl rfl ?_) | (refine Tr.cond rfl (fun _ => ?_) (fun _ => ?_) <;> try (rename_i h; cases h; done)) | refine Tr.block ?_ | refine Tr.skip ?_ | refine Tr.ret ⟨_, rfl, ?_⟩)
        refine Sq.append tab_ok rfl (by intro y hy; simp only [List.mem_singleton] at hy; subst hy; rfl) (by simp [saidR]; omega) ?_
        repeat' (first | refine Tr.seq ?_ | refine Tr.region ?_ | refine Sq.ev tab_ok rfl rfl ?_ | refine Sq.nil ?_ | (refine Sq.guard rfl rfl (fun _ => ?_) (fun _ => ?_) <;> refine Sq.ev tab_ok rfl rfl ?_) | (refine Tr.cond rfl (fun _ => ?_) (fun _ => ?_) <;> try (rename_i h; cases h; done)) | refine Tr.block ?_ | refine Tr.skip ?_ | refine Tr.ret ⟨_, rfl, ?_⟩)
        exact ⟨i + 1, by omega, by omega, Sub.app (l := [_, _, _, _, _, _, _]) (H := []) ⟨rfl, rfl, rfl, congrArg some (congrArg (fun x => AV.blk _ [AV.own _ x]) (by rw [List.take_succ_eq_append_getElem hlt, hl]; simp [saidR])), rfl, rfl, congrArg some (wrapz (by omega) (by omega) (by omega)), trivial⟩ (fun κ v h => nomatch h)⟩
    · rename_i h
      have hge : r.length ≤ i := by simp only [List.length_map, decide_eq_false_iff_not] at h; omega
      rw [List.take_of_length_le hge]
      refine Tr.exit ?_
      repeat' (first | refine Tr.seq ?_ | refine Tr.region ?_ | refine Sq.ev tab_ok rfl rfl ?_ | refine Sq.nil ?_ | (refine Sq.guard rfl rfl (fun _ => ?_) (fun _ => ?_) <;> refine Sq.ev tab_ok rfl rfl ?_) | (refine Tr.cond rfl (fun _ => ?_) (fun _ => ?_) <;> try (rename_i h; cases h; done)) | refine Tr.block ?_ | refine Tr.skip ?_ | refine Tr.ret ⟨_, rfl, ?_⟩)
      cases hs : smallR (saidR r)
      · rw [hs] at hlast
        refine Sq.callv rfl (hlast) ?_
        repeat' (first | refine Tr.seq ?_ | refine Tr.region ?_ | refine Sq.ev tab_ok rfl rfl ?_ | refine Sq.nil ?_ | (refine Sq.guard rfl rfl (fun _ => ?_) (fun _ => ?_) <;> refine Sq.ev tab_ok rfl rfl ?_) | (refine Tr.cond rfl (fun _ => ?_) (fun _ => ?_) <;> try (rename_i h; cases h; done)) | refine Tr.block ?_ | refine Tr.skip ?_ | refine Tr.ret ⟨_, rfl, ?_⟩)
        rfl
      · rw [hs] at hlast
        refine Sq.callv rfl (hlast) ?_
        repeat' (first | refine Tr.seq ?_ | refine Tr.region ?_ | refine Sq.ev tab_ok rfl rfl ?_ | refine Sq.nil ?_ | (refine Sq.guard rfl rfl (fun _ => ?_) (fun _ => ?_) <;> refine Sq.ev tab_ok rfl rfl ?_) | (refine Tr.cond rfl (fun _ => ?_) (fun _ => ?_) <;> try (rename_i h; cases h; done)) | refine Tr.block ?_ | refine Tr.skip ?_ | refine Tr.ret ⟨_, rfl, ?_⟩)
        rfl
end Go.Lg.Tryz

set_option linter.unusedVariables false
set_option linter.unusedSimpArgs false
namespace Go.Lg.Tryz
open Go Go.Proofs Go.RowKit Go.Lib Go.Lg.Sem
theorem eqA_rcomp (d : Nat) (w : World) (x0 y0 : Int) (x1 y1 : Int) (x2 y2 : Int) (x3 y3 : Int) (x4 y4 : ByteArray) :
    (Op.equalIn (d + 3) 53 (.agg #[.int .i64 x0, .int .i64 x1, .int .i64 x2, .int .i64 x3, .string x4]) (.agg #[.int .i64 y0, .int .i64 y1, .int .i64 y2, .int .i64 y3, .string y4])).run Tryz.prog w = .ok (x0 == y0 && ((x1 == y1 && (x2 == y2 && (x3 == y3 && (x4.toList == y4.toList)))))) w := by
  refine eqA_of Tryz.underlying53 (by kernel_rfl) ?_
  refine eqf_cons (by rfl) (by go_simp; rfl) (by go_simp; rfl) (by go_simp) ?_
  exact eqf_last (by rfl) (by go_simp) (by go_simp) (eqA_rver (d + 0) w _ _ _ _ _ _ _ _)
theorem eqG_rcomp : (Tryz.prog).eqGuardType (Tryz.prog).depth 53 = false := by kernel_rfl
theorem alike_ok (r q : Rng) (hn : r.length ≤ 1073741824) (hl : ∀ l, l ∈ r → l.length ≤ 1073741824) : Fn Tryz.prog Gw 15 [.tr (rngT r), .tr (rngT q)] [] (· = bool (rngEq r q)) := by
  refine Fn.of tab_ok Tryz.func15 rfl (by decide) (by simp [Tryz.f15]) rfl (fun κ v h => by cases h) Gw.below ?_
  repeat' (first | refine Tr.seq ?_ | refine Tr.region ?_ | refine Sq.ev tab_ok rfl rfl ?_ | refine Sq.nil ?_ | (refine Sq.guard rfl rfl (fun _ => ?_) (fun _ => ?_) <;> refine Sq.ev tab_ok rfl rfl ?_) | (refine Tr.cond rfl (fun _ => ?_) (fun _ => ?_) <;> try (rename_i h; cases h; done)) | refine Tr.block ?_ | refine Tr.skip ?_ | refine Tr.ret ⟨_, rfl, ?_⟩)
  · rename_i h
    rw [rngEq_len (by simp at h; omega)]
  · rename_i h
    have hlen : r.length = q.length := by simp at h; omega
    refine Tr.loopS (fun i : Nat => [(.s 3, .ptr (.l 3) 0), (.l 3, .blk 31 [.tr (.ls (q.map cmpsT))]), (.s 17, .tr (.ls (r.map cmpsT))), (.s 18, int (r.map cmpsT).length), (.s 19, int i)]) (fun i => r.length - i)
      (fun i => i ≤ r.length ∧ rngEq r q = rngEq (r.drop i) (q.drop i))
      0 ⟨by omega, by simp⟩ (Sub.app (l := [_, _, _, _, _]) (H := []) ⟨rfl, rfl, rfl, rfl, rfl, trivial⟩ (fun κ v h => nomatch h)) ?_
    rintro i ⟨hi, hp⟩
    repeat' (first | refine Tr.seq ?_ | refine Tr.region ?_ | refine Sq.ev tab_ok rfl rfl ?_ | refine Sq.nil ?_ | (refine Sq.guard rfl rfl (fun _ => ?_) (fun _ => ?_) <;> refine Sq.ev tab_ok rfl rfl ?_) | (refine Tr.cond rfl (fun _ => ?_) (fun _ => ?_) <;> try (rename_i h; cases h; done)) | refine Tr.block ?_ | refine Tr.skip ?_ | refine Tr.ret ⟨_, rfl, ?_⟩)
    · rename_i h
      have hlt : i < r.length := by simp only [List.length_map, decide_eq_true_eq] at h; omega
      have hlt2 : i < q.length := by omega
      rw [rngEq_at r q i hlt hlt2] at hp
      have hll := hl r[i] (List.getElem_mem hlt)
      obtain ⟨l, hl⟩ : ∃ l, r[i] = l := ⟨_, rfl⟩
      obtain ⟨m, hm⟩ : ∃ m, q[i] = m := ⟨_, rfl⟩
      have he : (r.map cmpsT)[i]? = some (cmpsT l) := by rw [List.getElem?_map, List.getElem?_eq_getElem hlt, hl]; rfl
      have he2 : (q.map cmpsT)[i]? = some (cmpsT m) := by rw [List.getElem?_map, List.getElem?_eq_getElem hlt2, hm]; rfl
      rw [hl] at hll hp
      rw [hm] at hp
      refine Sq.index (x := cmpsT l) tab_ok rfl (by omega) (by simpa using he) rfl ?_
      repeat' (first | refine Tr.seq ?_ | refine Tr.region ?_ | refine Sq.ev tab_ok rfl rfl ?_ | refine Sq.nil ?_ | (refine Sq.guard rfl rfl (fun _ => ?_) (fun _ => ?_) <;> refine Sq.ev tab_ok rfl rfl ?_) | (refine Tr.cond rfl (fun _ => ?_) (fun _ => ?_) <;> try (rename_i h; cases h; done)) | refine Tr.block ?_ | refine Tr.skip ?_ | refine Tr.ret ⟨_, rfl, ?_⟩)
      refine Sq.index (x := cmpsT m) tab_ok rfl (by omega) (by simpa using he2) rfl ?_
      repeat' (first | refine Tr.seq ?_ | refine Tr.region ?_ | refine Sq.ev tab_ok rfl rfl ?_ | refine Sq.nil ?_ | (refine Sq.guard rfl rfl (fun _ => ?_) (fun _ => ?_) <;> refine Sq.ev tab_ok rfl rfl ?_) | (refine Tr.cond rfl (fun _ => ?_) (fun _ => ?_) <;> try (rename_i h; cases h; done)) | refine Tr.block ?_ | refine Tr.skip ?_ | refine Tr.ret ⟨_, rfl, ?_⟩)
      · rename_i h2
        rw [hp, cmpsEq_len (by simp at h2; omega)]; rfl
      · rename_i h2
        have hlen2 : l.length = m.length := by simp at h2; omega
        refine Tr.loopS (fun k : Nat => [(.s 3, .ptr (.l 3) 0), (.l 3, .blk 31 [.tr (.ls (q.map cmpsT))]), (.s 17, .tr (.ls (r.map cmpsT))), (.s 18, int (r.map cmpsT).length), (.s 19, int i), (.s 5, int i), (.s 33, .tr (.ls (l.map Cmp.t))), (.s 34, int (l.map Cmp.t).length), (.s 35, int k)]) (fun k => l.length - k)
          (fun k => k ≤ l.length ∧ cmpsEq l m = cmpsEq (l.drop k) (m.drop k))
          0 ⟨by omega, by simp⟩ (Sub.app (l := [_, _, _, _, _, _, _, _, _]) (H := []) ⟨rfl, rfl, rfl, rfl, rfl, rfl, rfl, rfl, rfl, trivial⟩ (fun κ v h => nomatch h)) ?_
        rintro k ⟨hk, hq⟩
        repeat' (first | refine Tr.seq ?_ | refine Tr.region ?_ | refine Sq.ev tab_ok rfl rfl ?_ | refine Sq.nil ?_ | (refine Sq.guard rfl rfl (fun _ => ?_) (fun _ => ?_) <;> refine Sq.ev tab_ok rfl rfl ?_) | (refine Tr.cond rfl (fun _ => ?_) (fun _ => ?_) <;> try (rename_i h; cases h; done)) | refine Tr.block ?_ | refine Tr.skip ?_ | refine Tr.ret ⟨_, rfl, ?_⟩)
        · rename_i h5
          have hk1 : k < l.length := by simp only [List.length_map, decide_eq_true_eq] at h5; omega
          have hk2 : k < m.length := by omega
          rw [cmpsEq_at l m k hk1 hk2] at hq
          obtain ⟨c, hc⟩ : ∃ c, l[k] = c := ⟨_, rfl⟩
          obtain ⟨d, hd⟩ : ∃ d, m[k] = d := ⟨_, rfl⟩
          have hce : (l.map Cmp.t)[k]? = some (Cmp.t c) := by rw [List.getElem?_map, List.getElem?_eq_getElem hk1, hc]; rfl
          have hde : (m.map Cmp.t)[k]? = some (Cmp.t d) := by rw [List.getElem?_map, List.getElem?_eq_getElem hk2, hd]; rfl
          rw [hc, hd] at hq
          refine Sq.index (x := Cmp.t c) tab_ok rfl (by omega) (by simpa using hce) rfl ?_
          repeat' (first | refine Tr.seq ?_ | refine Tr.region ?_ | refine Sq.ev tab_ok rfl rfl ?_ | refine Sq.nil ?_ | (refine Sq.guard rfl rfl (fun _ => ?_) (fun _ => ?_) <;> refine Sq.ev tab_ok rfl rfl ?_) | (refine Tr.cond rfl (fun _ => ?_) (fun _ => ?_) <;> try (rename_i h; cases h; done)) | refine Tr.block ?_ | refine Tr.skip ?_ | refine Tr.ret ⟨_, rfl, ?_⟩)
          refine Tr.drawn ( DSq.ev tab_ok rfl rfl <| DSq.ev tab_ok rfl rfl <| DSq.ev tab_ok rfl rfl <| DSq.ev tab_ok rfl rfl <| DSq.one rfl (fun q K hK => Sq.index (x := cmpsT m) tab_ok rfl (by omega) (by simpa using he2) rfl (Sq.nil hK)) <| DSq.ev tab_ok rfl rfl <| DSq.ev tab_ok rfl rfl <| DSq.one rfl (fun q K hK => Sq.index (x := Cmp.t d) tab_ok rfl (by omega) (by simpa using hde) rfl (Sq.nil hK)) <| DSq.ev tab_ok rfl rfl <| DSq.eqag rfl (fun _ => rfl) eqG_rcomp (fun w => eqA_rcomp 9997 w _ _ _ _ _ _ _ _ _ _) <| DSq.nil _) mix_ok rfl ?_
          have e : (c.op == d.op && (c.v.a == d.v.a && (c.v.b == d.v.b && (c.v.c == d.v.c && (c.v.p.toList == d.v.p.toList))))) = cmpEq c d := by simp only [ba_toList]; rfl
          rw [e]
          repeat' (first | refine Tr.seq ?_ | refine Tr.region ?_ | refine Sq.ev tab_ok rfl rfl ?_ | refine Sq.nil ?_ | (refine Sq.guard rfl rfl (fun _ => ?_) (fun _ => ?_) <;> refine Sq.ev tab_ok rfl rfl ?_) | (refine Tr.cond rfl (fun _ => ?_) (fun _ => ?_) <;> try (rename_i h; cases h; done)) | refine Tr.block ?_ | refine Tr.skip ?_ | refine Tr.ret ⟨_, rfl, ?_⟩)
          · rename_i h6
            have h6 : cmpEq c d = false := by simpa using h6
            rw [hp, hq, h6]; rfl
          · rename_i h6
            have h6 : cmpEq c d = true := by simpa using h6
            refine ⟨k + 1, ⟨by omega, by rw [hq, h6, Bool.true_and]⟩, by omega, Sub.app (l := [_, _, _, _, _, _, _, _, _]) (H := []) ⟨rfl, rfl, rfl, rfl, rfl, rfl, rfl, rfl, congrArg some (wrapz (by omega) (by omega) (by omega)), trivial⟩ (fun κ v h => nomatch h)⟩
        · rename_i h5
          have hk2 : l.length ≤ k := by simp only [List.length_map, decide_eq_false_iff_not] at h5; omega
          rw [List.drop_of_length_le hk2, List.drop_of_length_le (by omega)] at hq
          refine Tr.exit ?_
          repeat' (first | refine Tr.seq ?_ | refine Tr.region ?_ | refine Sq.ev tab_ok rfl rfl ?_ | refine Sq.nil ?_ | (refine Sq.guard rfl rfl (fun _ => ?_) (fun _ => ?_) <;> refine Sq.ev tab_ok rfl rfl ?_) | (refine Tr.cond rfl (fun _ => ?_) (fun _ => ?_) <;> try (rename_i h; cases h; done)) | refine Tr.block ?_ | refine Tr.skip ?_ | refine Tr.ret ⟨_, rfl, ?_⟩)
          refine ⟨i + 1, ⟨by omega, by rw [hp, hq]; rfl⟩, by omega, Sub.app (l := [_, _, _, _, _]) (H := []) ⟨rfl, rfl, rfl, rfl, congrArg some (wrapz (by omega) (by omega) (by omega)), trivial⟩ (fun κ v h => nomatch h)⟩
    · rename_i h
      have hge : r.length ≤ i := by simp only [List.length_map, decide_eq_false_iff_not] at h; omega
      rw [List.drop_of_length_le hge, List.drop_of_length_le (by omega)] at hp
      refine Tr.exit ?_
      repeat' (first | refine Tr.seq ?_ | refine Tr.region ?_ | refine Sq.ev tab_ok rfl rfl ?_ | refine Sq.nil ?_ | (refine Sq.guard rfl rfl (fun _ => ?_) (fun _ => ?_) <;> refine Sq.ev tab_ok rfl rfl ?_) | (refine Tr.cond rfl (fun _ => ?_) (fun _ => ?_) <;> try (rename_i h; cases h; done)) | refine Tr.block ?_ | refine Tr.skip ?_ | refine Tr.ret ⟨_, rfl, ?_⟩)
      rw [hp]; rfl
end Go.Lg.Tryz

set_option linter.unusedVariables false
set_option linter.unusedSimpArgs false
namespace Go.Lg.Sem
open Go Go.Lib
theorem upperV_right (c : Cmp) (h : (upperV c).2 = true) : (upperV c).1.right = true := by
  unfold upperV at h ⊢
  generalize upPart c = k at *
  unfold bumpV at h ⊢
  split at h
  · split at h
    · rename_i h1 h2
      rw [if_pos h1, if_pos h2]
      exact h2
    · simp at h
  · simp at h
theorem hasC_said (c : Cmp) (v : Ver) (hr : cmpRight c = true) : ((saidC c).all fun d => hasC d v) = hasC c v := by
  unfold saidC
  by_cases h6 : c.op < 6
  · rw [if_pos h6]; simp
  · rw [if_neg h6]
    have hle : c.op ≤ 7 := by
      rw [cmpRight, if_neg (by omega)] at hr
      simp only [Bool.and_eq_true, decide_eq_true_eq] at hr; exact hr.2.1
    have h67 : c.op = 6 ∨ c.op = 7 := by omega
    have e : hasC c v = (decide (cmpVer v c.v ≥ 0) && (!(upperV c).2 || decide (cmpVer v (upperV c).1 < 0))) := by
      unfold hasC
      rw [if_neg (by omega), if_neg (by omega), if_neg (by omega), if_neg (by omega), if_neg (by omega), if_pos h67]
    rw [e]
    have e5 : hasC ⟨5, c.v⟩ v = decide (cmpVer v c.v ≥ 0) := by simp [hasC]
    have e2 : hasC ⟨2, (upperV c).1⟩ v = decide (cmpVer v (upperV c).1 < 0) := by simp [hasC]
    cases hu : (upperV c).2
    · simp [e5]
    · simp [e5, e2]
theorem right_said (c : Cmp) (hr : cmpRight c = true) : (saidC c).all cmpRight = true := by
  unfold saidC
  by_cases h6 : c.op < 6
  · rw [if_pos h6]; simp [hr]
  · rw [if_neg h6]
    have hv : c.v.right = true := by
      rw [cmpRight, if_neg (by omega)] at hr
      simp only [Bool.and_eq_true, decide_eq_true_eq] at hr; exact hr.2.2
    have e5 : cmpRight ⟨5, c.v⟩ = true := by simp [cmpRight, hv]
    cases hu : (upperV c).2
    · simp [e5]
    · have := upperV_right c hu
      have e2 : cmpRight ⟨2, (upperV c).1⟩ = true := by simp [cmpRight, this]
      simp [e5, e2]
theorem saidC_ne (c : Cmp) : 1 ≤ (saidC c).length := by
  unfold saidC; split <;> simp
theorem said_ge : ∀ (l : List Cmp), l.length ≤ (l.flatMap saidC).length
  | [] => by simp
  | c :: l => by
    have := said_ge l
    have := saidC_ne c
    rw [List.flatMap_cons, List.length_append, List.length_cons]; omega
theorem all_said (p : Cmp → Bool) (q : Cmp → Bool) : ∀ (l : List Cmp), (∀ c, c ∈ l → (saidC c).all p = q c) → (l.flatMap saidC).all p = l.all q
  | [], _ => rfl
  | c :: l, h => by
    rw [List.flatMap_cons, List.all_append, List.all_cons, h c (List.mem_cons_self ..), all_said p q l (fun d hd => h d (List.mem_cons_of_mem _ hd))]
theorem rngRight_in {r : Rng} (h : rngRight r = true) {l : List Cmp} (hl : l ∈ r) : sizedB l.length = true ∧ l.all cmpRight = true := by
  unfold rngRight at h
  rw [Bool.and_eq_true, List.all_eq_true] at h
  have := h.1 l hl
  rwa [Bool.and_eq_true] at this
theorem rngRight_len {r : Rng} (h : rngRight r = true) : 1 ≤ r.length ∧ r.length ≤ 8 := by
  unfold rngRight sizedB at h
  simp only [Bool.and_eq_true, decide_eq_true_eq] at h
  omega
theorem rngRight_said {r : Rng} (h : rngRight r = true) (hs : smallR (saidR r) = true) : rngRight (saidR r) = true := by
  obtain ⟨h1, h2⟩ := rngRight_len h
  unfold smallR at hs
  rw [Bool.and_eq_true, List.all_eq_true] at hs
  unfold rngRight
  rw [Bool.and_eq_true, List.all_eq_true]
  refine ⟨?_, by simp [saidR, sizedB]; omega⟩
  intro m hm
  have h8 := hs.2 m hm
  obtain ⟨l, hl, rfl⟩ := List.mem_map.1 hm
  obtain ⟨h3, h4⟩ := rngRight_in h hl
  have h5 := said_ge l
  rw [List.all_eq_true] at h4
  rw [Bool.and_eq_true]
  refine ⟨?_, ?_⟩
  · simp only [sizedB, Bool.and_eq_true, decide_eq_true_eq] at h3 h8 ⊢
    omega
  · rw [all_said cmpRight (fun _ => true) l (fun c hc => right_said c (h4 c hc))]
    simp
theorem hasR_said {r : Rng} (v : Ver) (h : rngRight r = true) (hs : smallR (saidR r) = true) : hasR (saidR r) v = hasR r v := by
  unfold hasR
  rw [rngRight_said h hs, h]
  congr 2
  unfold saidR
  rw [List.any_map]
  rw [Bool.eq_iff_iff, List.any_eq_true, List.any_eq_true]
  have key : ∀ l, l ∈ r → ((l.flatMap saidC).all fun c => hasC c v) = l.all fun c => hasC c v := fun l hl => by
    have h4 := (rngRight_in h hl).2
    rw [List.all_eq_true] at h4
    exact all_said _ _ l (fun c hc => hasC_said c v (h4 c hc))
  constructor
  · rintro ⟨l, hl, hh⟩; exact ⟨l, hl, by rw [← key l hl]; exact hh⟩
  · rintro ⟨l, hl, hh⟩; exact ⟨l, hl, by show ((l.flatMap saidC).all fun c => hasC c v) = true; rw [key l hl]; exact hh⟩
def bigR (r : Rng) : Bool := (saidR r).any fun l => decide ((l.length : Int) > 8)
theorem small_big {r : Rng} (h : rngRight r = true) : smallR (saidR r) = !bigR r := by
  obtain ⟨h1, h2⟩ := rngRight_len h
  unfold smallR bigR
  have : (saidR r).length ≤ 8 := by simp [saidR]; omega
  rw [decide_eq_true this, Bool.true_and, Bool.eq_iff_iff, Bool.not_eq_true', List.all_eq_true, ← Bool.not_eq_true, List.any_eq_true]
  constructor
  · rintro h ⟨l, hl, h3⟩
    have := h l hl
    simp only [decide_eq_true_eq] at this h3; omega
  · intro h l hl
    simp only [decide_eq_true_eq]
    rcases Nat.lt_or_ge 8 l.length with h4 | h4
    · exact absurd ⟨l, hl, by simp only [decide_eq_true_eq]; omega⟩ h
    · exact h4
theorem plain_ok_of {m : Nat} {r : Rng} (h : plainR m r = true) (hm : m ≤ 1000) : r.ok ∧ r.length ≤ m ∧ ∀ l, l ∈ r → l.length ≤ m := by
  unfold plainR at h
  rw [Bool.and_eq_true, List.all_eq_true] at h
  have h2 : ∀ l, l ∈ r → l.length ≤ m ∧ ∀ c, c ∈ l → c.v.p.size ≤ 100 := fun l hl => by
    have := h.2 l hl
    unfold plainL at this
    rw [Bool.and_eq_true, List.all_eq_true] at this
    refine ⟨of_decide_eq_true this.1, fun c hc => ?_⟩
    have := this.2 c hc
    unfold plainC at this
    exact of_decide_eq_true this
  refine ⟨fun l hl => ⟨?_, fun c hc => ?_⟩, of_decide_eq_true h.1, fun l hl => (h2 l hl).1⟩
  · have := (h2 l hl).1; omega
  · have := (h2 l hl).2 c hc
    show c.v.p.size ≤ 1000000000
    omega
theorem plain_said {r : Rng} (h : plainR 20 r = true) (hs : smallR (saidR r) = true) : plainR 20 (saidR r) = true := by
  unfold smallR at hs
  rw [Bool.and_eq_true, List.all_eq_true] at hs
  unfold plainR at h ⊢
  rw [Bool.and_eq_true, List.all_eq_true] at h ⊢
  have h1 := of_decide_eq_true hs.1
  refine ⟨by rw [decide_eq_true_eq]; omega, ?_⟩
  intro m hm
  have h8 := of_decide_eq_true (hs.2 m hm)
  obtain ⟨l, hl, rfl⟩ := List.mem_map.1 hm
  have hp := h.2 l hl
  unfold plainL at hp ⊢
  rw [Bool.and_eq_true, List.all_eq_true] at hp
  rw [Bool.and_eq_true]
  refine ⟨by rw [decide_eq_true_eq]; omega, ?_⟩
  rw [all_said plainC (fun _ => true) l (fun c hc => ?_)]
  · simp
  · have hc2 := hp.2 c hc
    unfold saidC
    split
    · simp [hc2]
    · have e5 : plainC ⟨5, c.v⟩ = true := hc2
      have e2 : plainC ⟨2, (upperV c).1⟩ = true := rfl
      split <;> simp [e5, e2]
end Go.Lg.Sem

set_option linter.unusedVariables false
set_option linter.unusedSimpArgs false
namespace Go.Lg.Sem
open Go Go.Lib
theorem cmpI_lt {a b : Int} (h : a < b) : cmpI a b = -1 := by unfold cmpI; rw [if_pos h]
theorem cmpI_gt {a b : Int} (h : b < a) : cmpI a b = 1 := by unfold cmpI; rw [if_neg (by omega), if_pos h]
theorem cmpI_eq (a : Int) : cmpI a a = 0 := by unfold cmpI; rw [if_neg (by omega), if_neg (by omega)]
theorem cv_a_lt {v w : Ver} (h : v.a < w.a) : cmpVer v w = -1 := by rw [cmpVer_eq, cmpI_lt h]; rfl
theorem cv_a_gt {v w : Ver} (h : w.a < v.a) : cmpVer v w = 1 := by rw [cmpVer_eq, cmpI_gt h]; rfl
theorem cv_b_lt {v w : Ver} (e : v.a = w.a) (h : v.b < w.b) : cmpVer v w = -1 := by rw [cmpVer_eq, e, cmpI_eq, cmpI_lt h]; rfl
theorem cv_b_gt {v w : Ver} (e : v.a = w.a) (h : w.b < v.b) : cmpVer v w = 1 := by rw [cmpVer_eq, e, cmpI_eq, cmpI_gt h]; rfl
theorem cv_c_lt {v w : Ver} (e : v.a = w.a) (e2 : v.b = w.b) (h : v.c < w.c) : cmpVer v w = -1 := by rw [cmpVer_eq, e, e2, cmpI_eq, cmpI_eq, cmpI_lt h]; rfl
theorem cv_c_gt {v w : Ver} (e : v.a = w.a) (e2 : v.b = w.b) (h : w.c < v.c) : cmpVer v w = 1 := by rw [cmpVer_eq, e, e2, cmpI_eq, cmpI_eq, cmpI_gt h]; rfl
theorem marksV_refl (p : ByteArray) : marksV p p = 0 := ordP.self p trivial
theorem cv_refl (v : Ver) : cmpVer v v = 0 := by rw [cmpVer_eq, cmpI_eq, cmpI_eq, cmpI_eq]; exact marksV_refl v.p
theorem hasC_up (c : Cmp) (w : Ver) (hr : c.v.right = true) (ho : c.op = 6 ∨ c.op = 7) : hasC c w = (decide (cmpVer w c.v ≥ 0) && (!(refUpW c).right || decide (cmpVer w (refUpW c) < 0))) := by
  obtain ⟨h1, h2⟩ := refUp_eq c hr ho
  have e : hasC c w = (decide (cmpVer w c.v ≥ 0) && (!(upperV c).2 || decide (cmpVer w (upperV c).1 < 0))) := by
    unfold hasC
    rw [if_neg (by omega), if_neg (by omega), if_neg (by omega), if_neg (by omega), if_neg (by omega), if_pos ho]
  rw [e]
  have h3 : (refUpV c).2 = (refUpW c).right := rfl
  have h4 : (refUpV c).1 = refUpW c := rfl
  rw [h1, h3]
  cases hu : (refUpW c).right
  · rfl
  · rw [h2 (by rw [h1, h3]; exact hu), h4]
def rOne (op : Int) (v : Ver) : Rng := [[⟨op, v⟩]]
theorem rOne_right (op : Int) (v : Ver) (hr : v.right = true) (ho : op = 6 ∨ op = 7) : rngRight (rOne op v) = true := by
  have : cmpRight ⟨op, v⟩ = true := by
    unfold cmpRight
    rw [if_neg (by show op ≠ 0; omega), hr]
    show (decide (op > 0) && (decide (op ≤ 7) && true)) = true
    rw [decide_eq_true (by omega), decide_eq_true (by omega)]; rfl
  unfold rngRight rOne
  simp [sizedB, this]
theorem hasOne (op : Int) (v w : Ver) (hr : v.right = true) (hw : w.right = true) (ho : op = 6 ∨ op = 7) : hasR (rOne op v) w = (decide (cmpVer w v ≥ 0) && (!(refUpW ⟨op, v⟩).right || decide (cmpVer w (refUpW ⟨op, v⟩) < 0))) := by
  unfold hasR
  rw [rOne_right op v hr ho, hw]
  simp only [Bool.true_and, rOne, List.any_cons, List.any_nil, Bool.or_false, List.all_cons, List.all_nil, Bool.and_true]
  exact hasC_up ⟨op, v⟩ w hr ho
theorem bump_fact (v : Ver) (hr : v.right = true) (k : Int) (h0 : 0 ≤ k) (h2 : k ≤ 2) : ∃ x y z e : Int, bumpV v.a v.b v.c v.p k = ((x, y, z), e) ∧ ((e = 0 ∧ (x, y, z) = bumpN v.a v.b v.c v.p k ∧ Ver.right ⟨x, y, z, ⟨#[]⟩⟩ = true) ∨ e = 11) := by
  have hr' : rightB v.a v.b v.c v.p = true := hr
  unfold bumpV
  rw [if_pos ⟨hr', h0, h2⟩]
  by_cases h : rightB (bumpN v.a v.b v.c v.p k).1 (bumpN v.a v.b v.c v.p k).2.1 (bumpN v.a v.b v.c v.p k).2.2 ⟨#[]⟩ = true
  · rw [if_pos h]
    exact ⟨_, _, _, _, rfl, .inl ⟨rfl, rfl, h⟩⟩
  · rw [if_neg h]
    exact ⟨_, _, _, _, rfl, .inr rfl⟩
theorem right_nil {a b c : Int} : Ver.right ⟨a, b, c, ⟨#[]⟩⟩ = true ↔ (0 ≤ a ∧ a ≤ 999999) ∧ (0 ≤ b ∧ b ≤ 999999) ∧ (0 ≤ c ∧ c ≤ 999999) := rightN
theorem up6a {v : Ver} (h : 0 < v.a) : refUpW ⟨6, v⟩ = ⟨v.a + 1, 0, 0, ⟨#[]⟩⟩ := by unfold refUpW; rw [if_pos ⟨rfl, h⟩]
theorem up6b {v : Ver} (h : ¬ 0 < v.a) (h2 : v.b = 0) : refUpW ⟨6, v⟩ = ⟨0, 0, v.c + 1, ⟨#[]⟩⟩ := by unfold refUpW; rw [if_neg (fun e => h e.2), if_pos ⟨rfl, h2⟩]
theorem up6c {v : Ver} (h : ¬ 0 < v.a) (h2 : ¬ v.b = 0) : refUpW ⟨6, v⟩ = ⟨v.a, v.b + 1, 0, ⟨#[]⟩⟩ := by unfold refUpW; rw [if_neg (fun e => h e.2), if_neg (fun e => h2 e.2)]
theorem up7 (v : Ver) : refUpW ⟨7, v⟩ = ⟨v.a, v.b + 1, 0, ⟨#[]⟩⟩ := by unfold refUpW; rw [if_neg (fun e => by have := e.1; simp at this), if_neg (fun e => by have := e.1; simp at this)]
theorem selfHas (op : Int) (v : Ver) (hr : v.right = true) (ho : op = 6 ∨ op = 7) : hasR (rOne op v) v = true := by
  rw [hasOne op v v hr hr ho, cv_refl]
  obtain ⟨⟨a0, a1⟩, ⟨b0, b1⟩, ⟨c0, c1⟩, _⟩ := right_parts hr
  have : cmpVer v (refUpW ⟨op, v⟩) = -1 := by
    rcases ho with rfl | rfl
    · by_cases ha : 0 < v.a
      · rw [up6a ha]; exact cv_a_lt (by show v.a < v.a + 1; omega)
      · by_cases hb : v.b = 0
        · rw [up6b ha hb]; exact cv_c_lt (by show v.a = 0; omega) hb (by show v.c < v.c + 1; omega)
        · rw [up6c ha hb]; exact cv_b_lt rfl (by show v.b < v.b + 1; omega)
    · rw [up7]; exact cv_b_lt rfl (by show v.b < v.b + 1; omega)
  rw [this]; simp
/-- The next Major. -/
theorem caret0 (v : Ver) (hr : v.right = true) (ha : 0 < v.a) (h1 : Ver.right ⟨v.a + 1, 0, 0, ⟨#[]⟩⟩ = true) : hasR (rOne 6 v) ⟨v.a + 1, 0, 0, ⟨#[]⟩⟩ = false := by
  rw [hasOne 6 v _ hr h1 (.inl rfl), up6a ha, h1, cv_refl]; simp
theorem tilde0 (v : Ver) (hr : v.right = true) (hb : v.b < 999999) (h1 : Ver.right ⟨v.a + 1, 0, 0, ⟨#[]⟩⟩ = true) : hasR (rOne 7 v) ⟨v.a + 1, 0, 0, ⟨#[]⟩⟩ = false := by
  obtain ⟨⟨a0, a1⟩, ⟨b0, b1⟩, ⟨c0, c1⟩, _⟩ := right_parts hr
  have h2 : Ver.right ⟨v.a, v.b + 1, 0, ⟨#[]⟩⟩ = true := right_nil.2 ⟨⟨a0, a1⟩, by omega, by omega⟩
  rw [hasOne 7 v _ hr h1 (.inr rfl), up7, h2, cv_a_gt (w := ⟨v.a, v.b + 1, 0, ⟨#[]⟩⟩) (by show v.a < v.a + 1; omega)]; simp
/-- The next Minor. -/
theorem tilde1 (v : Ver) (hr : v.right = true) (h1 : Ver.right ⟨v.a, v.b + 1, 0, ⟨#[]⟩⟩ = true) : hasR (rOne 7 v) ⟨v.a, v.b + 1, 0, ⟨#[]⟩⟩ = false := by
  rw [hasOne 7 v _ hr h1 (.inr rfl), up7, h1, cv_refl]; simp
theorem caret1 (v : Ver) (hr : v.right = true) (h1 : Ver.right ⟨v.a, v.b + 1, 0, ⟨#[]⟩⟩ = true) : hasR (rOne 6 v) ⟨v.a, v.b + 1, 0, ⟨#[]⟩⟩ = (decide (v.a > 0) || (v.b == 0 && v.c == 999999)) := by
  obtain ⟨⟨a0, a1⟩, ⟨b0, b1⟩, ⟨c0, c1⟩, _⟩ := right_parts hr
  rw [hasOne 6 v _ hr h1 (.inl rfl), cv_b_gt (v := ⟨v.a, v.b + 1, 0, ⟨#[]⟩⟩) (w := v) rfl (by show v.b < v.b + 1; omega)]
  by_cases ha : 0 < v.a
  · rw [up6a ha, cv_a_lt (w := ⟨v.a + 1, 0, 0, ⟨#[]⟩⟩) (by show v.a < v.a + 1; omega)]
    simp [ha]
  · by_cases hb : v.b = 0
    · rw [up6b ha hb, cv_b_gt (w := ⟨0, 0, v.c + 1, ⟨#[]⟩⟩) (by show v.a = 0; omega) (by show 0 < v.b + 1; omega)]
      have : Ver.right ⟨0, 0, v.c + 1, ⟨#[]⟩⟩ = !(v.c == 999999) := by
        rw [Bool.eq_iff_iff, right_nil, Bool.not_eq_true', beq_eq_false_iff_ne]; omega
      rw [this]
      have hda : decide (v.a > 0) = false := decide_eq_false (by omega)
      rw [hda, hb]
      cases v.c == 999999 <;> simp
    · rw [up6c ha hb, h1, cv_refl]
      have hda : decide (v.a > 0) = false := decide_eq_false (by omega)
      have hbb : (v.b == 0) = false := beq_eq_false_iff_ne.2 hb
      rw [hda, hbb]; simp
/-- The next Patch. -/
theorem tilde2 (v : Ver) (hr : v.right = true) (h1 : Ver.right ⟨v.a, v.b, v.c + 1, ⟨#[]⟩⟩ = true) : hasR (rOne 7 v) ⟨v.a, v.b, v.c + 1, ⟨#[]⟩⟩ = true := by
  rw [hasOne 7 v _ hr h1 (.inr rfl), up7, cv_c_gt (v := ⟨v.a, v.b, v.c + 1, ⟨#[]⟩⟩) (w := v) rfl rfl (by show v.c < v.c + 1; omega), cv_b_lt (v := ⟨v.a, v.b, v.c + 1, ⟨#[]⟩⟩) (w := ⟨v.a, v.b + 1, 0, ⟨#[]⟩⟩) rfl (by show v.b < v.b + 1; omega)]; simp
theorem caret2 (v : Ver) (hr : v.right = true) (h1 : Ver.right ⟨v.a, v.b, v.c + 1, ⟨#[]⟩⟩ = true) : hasR (rOne 6 v) ⟨v.a, v.b, v.c + 1, ⟨#[]⟩⟩ = (decide (v.a > 0) || decide (v.b > 0)) := by
  obtain ⟨⟨a0, a1⟩, ⟨b0, b1⟩, ⟨c0, c1⟩, _⟩ := right_parts hr
  rw [hasOne 6 v _ hr h1 (.inl rfl), cv_c_gt (v := ⟨v.a, v.b, v.c + 1, ⟨#[]⟩⟩) (w := v) rfl rfl (by show v.c < v.c + 1; omega)]
  by_cases ha : 0 < v.a
  · rw [up6a ha, cv_a_lt (w := ⟨v.a + 1, 0, 0, ⟨#[]⟩⟩) (by show v.a < v.a + 1; omega)]; simp [ha]
  · have hda : decide (v.a > 0) = false := decide_eq_false (by omega)
    have ea : v.a = 0 := by omega
    by_cases hb : v.b = 0
    · have e : (⟨v.a, v.b, v.c + 1, ⟨#[]⟩⟩ : Ver) = ⟨0, 0, v.c + 1, ⟨#[]⟩⟩ := by rw [ea, hb]
      rw [up6b ha hb]
      rw [e] at h1 ⊢
      rw [h1, cv_refl, hda, hb]; simp
    · have hdb : decide (v.b > 0) = true := decide_eq_true (by omega)
      rw [up6c ha hb, cv_b_lt (v := ⟨v.a, v.b, v.c + 1, ⟨#[]⟩⟩) (w := ⟨v.a, v.b + 1, 0, ⟨#[]⟩⟩) rfl (by show v.b < v.b + 1; omega), hda, hdb]; simp
end Go.Lg.Sem

set_option linter.unusedVariables false
set_option linter.unusedSimpArgs false
namespace Go.Lg.Sem.Tx
open Go Go.Lib Go.Lg.Sem
theorem cut_some (s : ByteArray) (i : Nat) (hi : i < s.size) (hc : b8 s i = 45) (h : ∀ j, 0 ≤ j → j < i → b8 s j ≠ 45) : Lib.cut s.data.toList [45] = (s.data.toList.take i, s.data.toList.drop (i + 1), true) := by
  have hx := indexB_one s 45 0 i (Nat.zero_le _) hi hc h
  rw [ext_all, Nat.sub_zero] at hx
  unfold Lib.cut
  have hx' : Lib.index s.data.toList [45] = (i : Int) := hx
  rw [hx', if_pos (by omega), Int.toNat_natCast]
  rfl
theorem tb_data (l : List UInt8) : (toBytes l).data.toList = l := by simp [toBytes]
theorem tb_size (l : List UInt8) : (toBytes l).size = l.length := by rw [← data_length, tb_data]
theorem tb_b8 (l : List UInt8) (j : Nat) : b8 (toBytes l) j = l.getD j 0 := by unfold b8; rw [tb_data]
theorem tb_inj {x y : List UInt8} (h : toBytes x = toBytes y) : x = y := by rw [← tb_data x, h, tb_data]
theorem tb_app (x y : List UInt8) : toBytes x ++ toBytes y = toBytes (x ++ y) := by apply bytes_ext; simp [toBytes]
theorem getD_mem {x : List UInt8} {j : Nat} (h : j < x.length) : x.getD j 0 ∈ x := by rw [List.getD_eq_getElem?_getD, List.getElem?_eq_getElem h]; exact List.getElem_mem _
theorem no_before (x y : List UInt8) (c : UInt8) (h : c ∉ x) : ∀ j, 0 ≤ j → j < x.length → b8 (toBytes (x ++ y)) j ≠ c := by
  intro j _ hj e
  rw [tb_b8, List.getD_eq_getElem?_getD, List.getElem?_append_left hj, ← List.getD_eq_getElem?_getD] at e
  exact h (e ▸ getD_mem hj)
theorem at_sep (x y : List UInt8) (c : UInt8) : b8 (toBytes (x ++ c :: y)) x.length = c := by
  rw [tb_b8, List.getD_eq_getElem?_getD, List.getElem?_append_right (Nat.le_refl _)]; simp
theorem pieces_cons (x y : List UInt8) (c : UInt8) (h : c ∉ x) : pieces (one c) (toBytes (x ++ c :: y)) = toBytes x :: pieces (one c) (toBytes y) := by
  rw [pieces_first _ c x.length (by rw [tb_size]; simp) (at_sep x y c) (no_before x _ c h)]
  congr 1
  · apply bytes_ext; rw [ext_data, tb_data, tb_data]; simp
  · congr 1; apply bytes_ext; rw [ext_data, tb_data, tb_data, tb_size, List.take_of_length_le (Nat.le_refl _)]
    have : x ++ c :: y = (x ++ [c]) ++ y := by simp
    rw [this, List.drop_left' (by simp)]
theorem pieces_one (x : List UInt8) (c : UInt8) (h : c ∉ x) : pieces (one c) (toBytes x) = [toBytes x] := by
  refine pieces_none _ _ ?_
  rintro ⟨i, hi, e⟩
  rw [tb_size] at hi
  rw [tb_b8] at e
  exact h (e ▸ getD_mem hi)
theorem pieces_app (c : UInt8) : ∀ (n : Nat) (x y : List UInt8), x.length = n → pieces (one c) (toBytes (x ++ c :: y)) = pieces (one c) (toBytes x) ++ pieces (one c) (toBytes y) := by
  intro n
  induction n using Nat.strongRecOn with
  | _ n ih =>
    intro x y hn
    by_cases h : c ∈ x
    · obtain ⟨a, b, rfl, ha⟩ := List.eq_append_cons_of_mem h
      rw [List.append_assoc, List.cons_append, pieces_cons _ _ _ ha, pieces_cons _ _ _ ha, ih b.length (by simp at hn; omega) b y rfl]
      rfl
    · rw [pieces_cons _ _ _ h, pieces_one _ _ h]; rfl
theorem cut_hit (x y : List UInt8) (h : 45 ∉ x) : Lib.cut (x ++ 45 :: y) [45] = (x, y, true) := by
  have := cut_some (toBytes (x ++ 45 :: y)) x.length (by rw [tb_size]; simp) (at_sep x y 45) (no_before x _ 45 h)
  rw [tb_data] at this
  rw [this]; simp
theorem cut_miss (x : List UInt8) (h : 45 ∉ x) : Lib.cut x [45] = (x, [], false) := by
  have := cut_none (toBytes x) (fun j h0 hj => by
    rw [tb_size] at hj
    intro e
    rw [tb_b8] at e
    exact h (e ▸ getD_mem hj))
  rwa [tb_data] at this

/-! ### decimal digits -/
theorem dg_isDig (k : Nat) (h : k < 10) : isDig (UInt8.ofNat (48 + k)) = true ∧ (UInt8.ofNat (48 + k)).toNat - 48 = k := by
  have : ∀ k : Fin 10, isDig (UInt8.ofNat (48 + k.1)) = true ∧ (UInt8.ofNat (48 + k.1)).toNat - 48 = k.1 := by decide
  exact this ⟨k, h⟩
theorem dec_props : ∀ (u : Nat), (Lib.decDigits u).all isDig = true ∧ decV 0 (Lib.decDigits u) = u ∧ Lib.decDigits u ≠ [] := by
  intro u
  induction u using Nat.strongRecOn with
  | _ u ih =>
    by_cases h : u < 10
    · rw [Lib.decDigits_one h]
      have := dg_isDig u h
      refine ⟨by rw [List.all_cons, this.1]; rfl, ?_, by simp⟩
      show 0 * 10 + _ = u
      omega
    · rw [Lib.decDigits, dif_neg h]
      have i := ih (u / 10) (by omega)
      have d := dg_isDig (u % 10) (by omega)
      refine ⟨by rw [List.all_append, i.1, List.all_cons, d.1]; rfl, ?_, by simp⟩
      rw [decV_snoc, i.2.1, d.2]; omega
theorem dec_len : ∀ (k u : Nat), u < 10 ^ (k + 1) → (Lib.decDigits u).length ≤ k + 1 := by
  intro k
  induction k with
  | zero => intro u h; rw [Lib.decDigits_one (by simpa using h)]; simp
  | succ k ih =>
    intro u h
    by_cases h1 : u < 10
    · rw [Lib.decDigits_one h1]; simp
    · rw [Lib.decDigits, dif_neg h1]
      have := ih (u / 10) (by rw [Nat.pow_succ] at h; omega)
      simp; exact this
theorem dec_head : ∀ (u : Nat), 1 ≤ u → (Lib.decDigits u).head? ≠ some 48 := by
  intro u
  induction u using Nat.strongRecOn with
  | _ u ih =>
    intro h
    by_cases h1 : u < 10
    · rw [Lib.decDigits_one h1]
      have : ∀ k : Fin 10, 1 ≤ k.1 → UInt8.ofNat (48 + k.1) ≠ 48 := by decide
      have := this ⟨u, h1⟩ h
      simpa using this
    · rw [Lib.decDigits, dif_neg h1]
      have i := ih (u / 10) (by omega) (by omega)
      have n := (dec_props (u / 10)).2.2
      rw [List.head?_append]
      cases e : (Lib.decDigits (u / 10)).head? with
      | none => exact absurd (List.head?_eq_none_iff.1 e) n
      | some c => rw [e] at i; simpa using i
theorem numL_dec (u : Nat) (h : u ≤ 999999) : numL (Lib.decDigits u) = true := by
  have p := dec_props u
  have l := dec_len 5 u (by omega)
  unfold numL
  rw [p.1]
  have e1 : (Lib.decDigits u).isEmpty = false := by cases e : Lib.decDigits u with | nil => exact absurd e p.2.2 | cons _ _ => rfl
  have e2 : decide ((Lib.decDigits u).length ≤ 6) = true := by simpa using l
  rw [e1, e2]
  have e3 : (decide ((Lib.decDigits u).head? = some 48) && decide ((Lib.decDigits u).length ≠ 1)) = false := by
    by_cases h0 : u = 0
    · subst h0; rw [Lib.decDigits_one (by omega)]; rfl
    · have := dec_head u (by omega)
      simp [this]
  rw [e3]; rfl
theorem dec_no (u : Nat) (c : UInt8) (hc : isDig c = false) : c ∉ Lib.decDigits u := fun h => by
  have := List.all_eq_true.1 (dec_props u).1 c h
  rw [hc] at this; cases this

/-! ### the text -/
/-- The numbers of a version as a text. -/
def numsT (a b c : Int) : List UInt8 := Lib.itoa a ++ 46 :: (Lib.itoa b ++ 46 :: Lib.itoa c)
def textL (a b c : Int) (p : List UInt8) : List UInt8 := numsT a b c ++ (if p = [] then [] else 45 :: p)
def textB (a b c : Int) (p : ByteArray) : ByteArray := toBytes (textL a b c p.data.toList)
theorem itoa_nat (a : Int) (h : 0 ≤ a) : Lib.itoa a = Lib.decDigits a.toNat := by unfold Lib.itoa; rw [if_neg (by omega)]
theorem inN_iff {n : Int} : inN n = true ↔ 0 ≤ n ∧ n ≤ 999999 := by simp [inN]
theorem itoa_no {a : Int} (h : inN a = true) (c : UInt8) (hc : isDig c = false) : c ∉ Lib.itoa a := by
  rw [itoa_nat a (inN_iff.1 h).1]; exact dec_no _ c hc
theorem itoa_num {a : Int} (h : inN a = true) : numP (toBytes (Lib.itoa a)) = true ∧ valP (toBytes (Lib.itoa a)) = a := by
  have h := inN_iff.1 h
  unfold numP valP numV
  rw [tb_data, itoa_nat a h.1]
  refine ⟨numL_dec _ (by omega), ?_⟩
  rw [(dec_props _).2.1]; omega
theorem nums_no {a b c : Int} (ha : inN a = true) (hb : inN b = true) (hc : inN c = true) : (45 : UInt8) ∉ numsT a b c := by
  unfold numsT
  simp only [List.mem_append, List.mem_cons, not_or]
  exact ⟨itoa_no ha 45 rfl, by decide, itoa_no hb 45 rfl, by decide, itoa_no hc 45 rfl⟩
theorem nums_pieces {a b c : Int} (ha : inN a = true) (hb : inN b = true) (hc : inN c = true) : pieces dot (toBytes (numsT a b c)) = [toBytes (Lib.itoa a), toBytes (Lib.itoa b), toBytes (Lib.itoa c)] := by
  show pieces (one 46) _ = _
  unfold numsT
  rw [pieces_cons _ _ _ (itoa_no ha 46 rfl), pieces_cons _ _ _ (itoa_no hb 46 rfl), pieces_one _ _ (itoa_no hc 46 rfl)]
theorem rightB_iff {a b c : Int} {p : ByteArray} : rightB a b c p = true ↔ inN a = true ∧ inN b = true ∧ inN c = true ∧ preO p = true := by unfold rightB; simp
theorem parse_text {a b c : Int} {p : ByteArray} (h : rightB a b c p = true) : parseV (textB a b c p) = (a, b, c, p, 0) := by
  obtain ⟨ha, hb, hc, hp⟩ := rightB_iff.1 h
  have na := itoa_num ha; have nb := itoa_num hb; have nc := itoa_num hc
  have np := nums_pieces ha hb hc
  have all : ([toBytes (Lib.itoa a), toBytes (Lib.itoa b), toBytes (Lib.itoa c)] : List ByteArray).all numP = true := by simp [na.1, nb.1, nc.1]
  unfold parseV textB
  rw [tb_data]
  by_cases h0 : p.data.toList = []
  · have e : textL a b c p.data.toList = numsT a b c := by unfold textL; rw [if_pos h0, List.append_nil]
    rw [e, cut_miss _ (nums_no ha hb hc)]
    simp only [np]
    rw [if_neg (by simp [na.1, nb.1, nc.1])]
    have ep : toBytes [] = p := bytes_ext (by rw [tb_data, h0])
    simp [na.2, nb.2, nc.2, ep]
  · have e : textL a b c p.data.toList = numsT a b c ++ 45 :: p.data.toList := by unfold textL; rw [if_neg h0]
    rw [e, cut_hit _ _ (nums_no ha hb hc)]
    simp only [np]
    have hpb : preB p = true := by
      unfold preO at hp
      rw [ba_toList] at hp
      cases e2 : p.data.toList with
      | nil => exact absurd e2 h0
      | cons x l => rw [e2] at hp; simpa using hp
    rw [toBytes_data]
    rw [if_neg (by simp [na.1, nb.1, nc.1, hpb])]
    simp [na.2, nb.2, nc.2]
theorem text_inj {v w : Ver} (hv : rightB v.a v.b v.c v.p = true) (hw : rightB w.a w.b w.c w.p = true) (h : textB v.a v.b v.c v.p = textB w.a w.b w.c w.p) : v = w := by
  have e := parse_text hv
  rw [h, parse_text hw] at e
  obtain ⟨va, vb, vc, vp⟩ := v
  obtain ⟨wa, wb, wc, wp⟩ := w
  simp only [Prod.mk.injEq] at e
  obtain ⟨e1, e2, e3, e4, _⟩ := e
  subst e1; subst e2; subst e3; subst e4; rfl

/-! ### the program's Text, the document's Text -/
theorem itoa_len {a : Int} (h : inN a = true) : (Lib.itoa a).length ≤ 6 := by
  have h := inN_iff.1 h
  rw [itoa_nat a h.1]; exact dec_len 5 _ (by omega)

/-! Texts of ranges. -/
def barL : List UInt8 := [32, 124, 124, 32]
theorem occ_bar_no (x y : List UInt8) (h : (124 : UInt8) ∉ x) (hy : y = [] ∨ y.head? = some 32) (j : Nat) (hj : j < x.length) : Lib.occAt (x ++ y) barL j = false := by
  unfold Lib.occAt
  rw [List.drop_append_of_le_length (by omega)]
  have hx : x.drop j ≠ [] := by rw [Ne, List.drop_eq_nil_iff]; omega
  cases h1 : x.drop j with
  | nil => exact absurd h1 hx
  | cons a t =>
    have hm : ∀ z, z ∈ a :: t → z ≠ 124 := fun z hz e => h (e ▸ List.mem_of_mem_drop (h1 ▸ hz))
    cases t with
    | nil =>
      rcases hy with rfl | hy
      · simp [barL, List.isPrefixOf]
      · cases y with
        | nil => cases hy
        | cons b u =>
          obtain rfl : b = 32 := by simpa using hy
          simp [barL, List.isPrefixOf]
    | cons b u =>
      have := hm b (by simp)
      simp [barL, List.isPrefixOf]
      intro _ e; exact absurd e.symm this
theorem indexB_bar (x y : List UInt8) (h : (124 : UInt8) ∉ x) : Lib.indexB (toBytes (x ++ (barL ++ y))) bars = (x.length : Int) := by
  show Lib.index (toBytes (x ++ (barL ++ y))).data.toList barL = _
  rw [tb_data]
  refine Lib.index_first (by simp) ?_ (fun j hj => occ_bar_no x (barL ++ y) h (.inr rfl) j hj)
  unfold Lib.occAt
  rw [List.drop_left]
  simp [barL, List.isPrefixOf]
theorem indexB_nobar (x : List UInt8) (h : (124 : UInt8) ∉ x) : Lib.indexB (toBytes x) bars = -1 := by
  show Lib.index (toBytes x).data.toList barL = _
  rw [tb_data]
  refine Lib.index_none fun j hj => ?_
  rcases Nat.lt_or_ge j x.length with h1 | h1
  · have := occ_bar_no x [] h (.inl rfl) j h1
    rwa [List.append_nil] at this
  · unfold Lib.occAt
    rw [List.drop_of_length_le h1]; rfl
theorem bars_cons (x y : List UInt8) (h : (124 : UInt8) ∉ x) : pieces bars (toBytes (x ++ (barL ++ y))) = toBytes x :: pieces bars (toBytes y) := by
  rw [pieces_hit bars _ (by decide) _ (indexB_bar x y h)]
  have e1 : (toBytes (x ++ (barL ++ y))).extract 0 x.length = toBytes x := by
    apply bytes_ext
    rw [ext_data, tb_data, tb_data, List.take_left]; rfl
  have e2 : (toBytes (x ++ (barL ++ y))).extract (x.length + bars.size) (toBytes (x ++ (barL ++ y))).size = toBytes y := by
    apply bytes_ext
    rw [ext_data, tb_data, tb_data, List.take_of_length_le (by rw [tb_size]; exact Nat.le_refl _), ← List.append_assoc, show x.length + bars.size = (x ++ barL).length by rw [List.length_append]; rfl, List.drop_left]
  rw [e1, e2]
theorem bars_one (x : List UInt8) (h : (124 : UInt8) ∉ x) : pieces bars (toBytes x) = [toBytes x] := pieces_miss bars _ (indexB_nobar x h)
theorem join_cons2 (sep x y : List UInt8) (r : List (List UInt8)) : Lib.join (x :: y :: r) sep = x ++ (sep ++ Lib.join (y :: r) sep) := by
  unfold Lib.join List.intercalate
  simp [List.intersperse]
theorem pieces_join_sp : ∀ (ys : List (List UInt8)), ys ≠ [] → (∀ y, y ∈ ys → (32 : UInt8) ∉ y) → pieces sp (toBytes (Lib.join ys [32])) = ys.map toBytes
  | [], h, _ => absurd rfl h
  | [x], _, h => by rw [Lib.join_one]; exact pieces_one x 32 (h x (by simp))
  | x :: y :: r, _, h => by
    rw [join_cons2]
    have := pieces_cons x (Lib.join (y :: r) [32]) 32 (h x (by simp))
    show pieces (one 32) (toBytes (x ++ 32 :: Lib.join (y :: r) [32])) = _
    rw [this]
    have ih := pieces_join_sp (y :: r) (by simp) (fun z hz => h z (List.mem_cons_of_mem _ hz))
    rw [show pieces (one 32) (toBytes (Lib.join (y :: r) [32])) = pieces sp (toBytes (Lib.join (y :: r) [32])) from rfl, ih]; rfl
theorem pieces_join_bar : ∀ (ys : List (List UInt8)), ys ≠ [] → (∀ y, y ∈ ys → (124 : UInt8) ∉ y) → pieces bars (toBytes (Lib.join ys barL)) = ys.map toBytes
  | [], h, _ => absurd rfl h
  | [x], _, h => by rw [Lib.join_one]; exact bars_one x (h x (by simp))
  | x :: y :: r, _, h => by
    rw [join_cons2, bars_cons x _ (h x (by simp)), pieces_join_bar (y :: r) (by simp) (fun z hz => h z (List.mem_cons_of_mem _ hz))]; rfl
theorem join_no (c : UInt8) (sep : List UInt8) (hs : c ∉ sep) : ∀ (ys : List (List UInt8)), (∀ y, y ∈ ys → c ∉ y) → c ∉ Lib.join ys sep
  | [], _ => by rw [Lib.join_nil]; simp
  | [x], h => by rw [Lib.join_one]; exact h x (by simp)
  | x :: y :: r, h => by
    rw [join_cons2]
    intro hm
    rcases List.mem_append.1 hm with hm | hm
    · exact h x (by simp) hm
    · rcases List.mem_append.1 hm with hm | hm
      · exact hs hm
      · exact join_no c sep hs (y :: r) (fun z hz => h z (List.mem_cons_of_mem _ hz)) hm
def textC (c : Cmp) : List UInt8 := if c.op = 0 then [42] else (signAt c.op.toNat).data.toList ++ textL c.v.a c.v.b c.v.c c.v.p.data.toList
def altT (l : List Cmp) : List UInt8 := Lib.join (l.map textC) [32]
def rngTx (r : Rng) : List UInt8 := Lib.join (r.map altT) barL
theorem preO_bytes {p : ByteArray} (hs : p.size < 4294967281) (h : preO p = true) (x : UInt8) (hx : x ∈ p.data.toList) : okB x.toNat = true ∨ x = 46 := by
  unfold preO at h
  rw [Bool.or_eq_true, ba_toList, List.isEmpty_iff] at h
  rcases h with h | h
  · rw [h] at hx; cases hx
  · obtain ⟨j, hj, e⟩ := List.getElem_of_mem hx
    rw [data_length] at hj
    have := preB_bytes p hs h j hj
    have e2 : b8 p j = x := by unfold b8; rw [List.getD_eq_getElem?_getD, List.getElem?_eq_getElem (by rw [data_length]; exact hj), e]; rfl
    rwa [e2] at this
theorem textL_no {v : Ver} (hr : v.right = true) (hs : v.p.size < 4294967281) (c : UInt8) (hc : isDig c = false) (h46 : c ≠ 46) (h45 : c ≠ 45) (hok : okB c.toNat = false) : c ∉ textL v.a v.b v.c v.p.data.toList := by
  obtain ⟨ha, hb, hcc, hp⟩ := rightB_iff.1 (show rightB v.a v.b v.c v.p = true from hr)
  have n1 := itoa_no ha c hc
  have n2 := itoa_no hb c hc
  have n3 := itoa_no hcc c hc
  unfold textL numsT
  intro hm
  rcases List.mem_append.1 hm with hm | hm
  · rcases List.mem_append.1 hm with hm | hm
    · exact n1 hm
    · rcases List.mem_cons.1 hm with rfl | hm
      · exact h46 rfl
      · rcases List.mem_append.1 hm with hm | hm
        · exact n2 hm
        · rcases List.mem_cons.1 hm with rfl | hm
          · exact h46 rfl
          · exact n3 hm
  · split at hm
    · cases hm
    · rcases List.mem_cons.1 hm with rfl | hm
      · exact h45 rfl
      · rcases preO_bytes hs hp c hm with h | h
        · rw [h] at hok; cases hok
        · exact h46 h
theorem sign_no (i : Nat) : (32 : UInt8) ∉ (signAt i).data.toList ∧ (124 : UInt8) ∉ (signAt i).data.toList := by
  match i with
  | 0 | 1 | 2 | 3 | 4 | 5 | 6 | 7 => decide
  | i + 8 => exact ⟨List.not_mem_nil, List.not_mem_nil⟩
theorem cr_parts {c : Cmp} (h : cmpRight c = true) (h0 : c.op ≠ 0) : 1 ≤ c.op ∧ c.op ≤ 7 ∧ c.v.right = true := by
  rw [cmpRight, if_neg h0] at h
  simp only [Bool.and_eq_true, decide_eq_true_eq] at h
  exact ⟨by omega, h.2.1, h.2.2⟩
theorem textC_no {c : Cmp} (h : cmpRight c = true) (hs : c.v.p.size < 4294967281) : (32 : UInt8) ∉ textC c ∧ (124 : UInt8) ∉ textC c := by
  unfold textC
  split
  · decide
  · rename_i h0
    obtain ⟨_, _, hr⟩ := cr_parts h h0
    obtain ⟨s1, s2⟩ := sign_no c.op.toNat
    refine ⟨fun hm => ?_, fun hm => ?_⟩
    · rcases List.mem_append.1 hm with hm | hm
      · exact s1 hm
      · exact textL_no hr hs 32 (by decide) (by decide) (by decide) (by decide) hm
    · rcases List.mem_append.1 hm with hm | hm
      · exact s2 hm
      · exact textL_no hr hs 124 (by decide) (by decide) (by decide) (by decide) hm
theorem textL_head {v : Ver} (hr : v.right = true) : ∃ d t, textL v.a v.b v.c v.p.data.toList = d :: t ∧ isDig d = true := by
  obtain ⟨ha, _, _, _⟩ := rightB_iff.1 (show rightB v.a v.b v.c v.p = true from hr)
  have h := inN_iff.1 ha
  unfold textL numsT
  rw [itoa_nat v.a h.1]
  obtain ⟨h1, _, h3⟩ := dec_props v.a.toNat
  cases hd : Lib.decDigits v.a.toNat with
  | nil => exact absurd hd h3
  | cons d t =>
    rw [hd, List.all_cons, Bool.and_eq_true] at h1
    exact ⟨d, _, rfl, h1.1⟩
theorem dig_ne {d : UInt8} (h : isDig d = true) : d ≠ 61 ∧ d ≠ 60 ∧ d ≠ 62 ∧ d ≠ 94 ∧ d ≠ 126 ∧ d ≠ 42 := by
  refine ⟨?_, ?_, ?_, ?_, ?_, ?_⟩ <;> (rintro rfl; revert h; decide)
theorem opOf_sign (d : UInt8) (t : List UInt8) (h : isDig d = true) (k : Nat) (h1 : 1 ≤ k) (h7 : k ≤ 7) : opOf (toBytes ((signAt k).data.toList ++ d :: t)) = k := by
  obtain ⟨n1, n2, n3, n4, n5, n6⟩ := dig_ne h
  have e : ∀ (j : Nat) (op : Nat), opStep (toBytes ((signAt k).data.toList ++ d :: t)) op j = if 0 < j ∧ ((signAt j).data.toList.isPrefixOf ((signAt k).data.toList ++ d :: t)) = true ∧ (op = 0 ∨ (signAt j).size = 2) then j else op := fun j op => by
    unfold opStep Lib.hasPrefix; rw [tb_data]
  have m1 := Ne.symm n1
  have z : ∀ i, i < 8 → (signAt i).size = if i = 3 ∨ i = 5 then 2 else 1 := by decide
  obtain rfl | rfl | rfl | rfl | rfl | rfl | rfl : k = 1 ∨ k = 2 ∨ k = 3 ∨ k = 4 ∨ k = 5 ∨ k = 6 ∨ k = 7 := by omega
  · unfold opOf
    simp only [opUpto]
    generalize hS : toBytes ((signAt 1).data.toList ++ d :: t) = S at *
    have a0 : opStep S 0 0 = 0 := by rw [e]; simp [signAt, signL, List.isPrefixOf, ByteArray.size, m1, n1]
    have a1 : opStep S 0 1 = 1 := by rw [e]; simp [signAt, signL, List.isPrefixOf, ByteArray.size, m1, n1]
    have a2 : opStep S 1 2 = 1 := by rw [e]; simp [signAt, signL, List.isPrefixOf, ByteArray.size, m1, n1]
    have a3 : opStep S 1 3 = 1 := by rw [e]; simp [signAt, signL, List.isPrefixOf, ByteArray.size, m1, n1]
    have a4 : opStep S 1 4 = 1 := by rw [e]; simp [signAt, signL, List.isPrefixOf, ByteArray.size, m1, n1]
    have a5 : opStep S 1 5 = 1 := by rw [e]; simp [signAt, signL, List.isPrefixOf, ByteArray.size, m1, n1]
    have a6 : opStep S 1 6 = 1 := by rw [e]; simp [signAt, signL, List.isPrefixOf, ByteArray.size, m1, n1]
    have a7 : opStep S 1 7 = 1 := by rw [e]; simp [signAt, signL, List.isPrefixOf, ByteArray.size, m1, n1]
    rw [a0, a1, a2, a3, a4, a5, a6, a7]
  · unfold opOf
    simp only [opUpto]
    generalize hS : toBytes ((signAt 2).data.toList ++ d :: t) = S at *
    have a0 : opStep S 0 0 = 0 := by rw [e]; simp [signAt, signL, List.isPrefixOf, ByteArray.size, m1, n1]
    have a1 : opStep S 0 1 = 0 := by rw [e]; simp [signAt, signL, List.isPrefixOf, ByteArray.size, m1, n1]
    have a2 : opStep S 0 2 = 2 := by rw [e]; simp [signAt, signL, List.isPrefixOf, ByteArray.size, m1, n1]
    have a3 : opStep S 2 3 = 2 := by rw [e]; simp [signAt, signL, List.isPrefixOf, ByteArray.size, m1, n1]
    have a4 : opStep S 2 4 = 2 := by rw [e]; simp [signAt, signL, List.isPrefixOf, ByteArray.size, m1, n1]
    have a5 : opStep S 2 5 = 2 := by rw [e]; simp [signAt, signL, List.isPrefixOf, ByteArray.size, m1, n1]
    have a6 : opStep S 2 6 = 2 := by rw [e]; simp [signAt, signL, List.isPrefixOf, ByteArray.size, m1, n1]
    have a7 : opStep S 2 7 = 2 := by rw [e]; simp [signAt, signL, List.isPrefixOf, ByteArray.size, m1, n1]
    rw [a0, a1, a2, a3, a4, a5, a6, a7]
  · unfold opOf
    simp only [opUpto]
    generalize hS : toBytes ((signAt 3).data.toList ++ d :: t) = S at *
    have a0 : opStep S 0 0 = 0 := by rw [e]; simp [signAt, signL, List.isPrefixOf, ByteArray.size, m1, n1]
    have a1 : opStep S 0 1 = 0 := by rw [e]; simp [signAt, signL, List.isPrefixOf, ByteArray.size, m1, n1]
    have a2 : opStep S 0 2 = 2 := by rw [e]; simp [signAt, signL, List.isPrefixOf, ByteArray.size, m1, n1]
    have a3 : opStep S 2 3 = 3 := by rw [e]; simp [signAt, signL, List.isPrefixOf, ByteArray.size, m1, n1]
    have a4 : opStep S 3 4 = 3 := by rw [e]; simp [signAt, signL, List.isPrefixOf, ByteArray.size, m1, n1]
    have a5 : opStep S 3 5 = 3 := by rw [e]; simp [signAt, signL, List.isPrefixOf, ByteArray.size, m1, n1]
    have a6 : opStep S 3 6 = 3 := by rw [e]; simp [signAt, signL, List.isPrefixOf, ByteArray.size, m1, n1]
    have a7 : opStep S 3 7 = 3 := by rw [e]; simp [signAt, signL, List.isPrefixOf, ByteArray.size, m1, n1]
    rw [a0, a1, a2, a3, a4, a5, a6, a7]
  · unfold opOf
    simp only [opUpto]
    generalize hS : toBytes ((signAt 4).data.toList ++ d :: t) = S at *
    have a0 : opStep S 0 0 = 0 := by rw [e]; simp [signAt, signL, List.isPrefixOf, ByteArray.size, m1, n1]
    have a1 : opStep S 0 1 = 0 := by rw [e]; simp [signAt, signL, List.isPrefixOf, ByteArray.size, m1, n1]
    have a2 : opStep S 0 2 = 0 := by rw [e]; simp [signAt, signL, List.isPrefixOf, ByteArray.size, m1, n1]
    have a3 : opStep S 0 3 = 0 := by rw [e]; simp [signAt, signL, List.isPrefixOf, ByteArray.size, m1, n1]
    have a4 : opStep S 0 4 = 4 := by rw [e]; simp [signAt, signL, List.isPrefixOf, ByteArray.size, m1, n1]
    have a5 : opStep S 4 5 = 4 := by rw [e]; simp [signAt, signL, List.isPrefixOf, ByteArray.size, m1, n1]
    have a6 : opStep S 4 6 = 4 := by rw [e]; simp [signAt, signL, List.isPrefixOf, ByteArray.size, m1, n1]
    have a7 : opStep S 4 7 = 4 := by rw [e]; simp [signAt, signL, List.isPrefixOf, ByteArray.size, m1, n1]
    rw [a0, a1, a2, a3, a4, a5, a6, a7]
  · unfold opOf
    simp only [opUpto]
    generalize hS : toBytes ((signAt 5).data.toList ++ d :: t) = S at *
    have a0 : opStep S 0 0 = 0 := by rw [e]; simp [signAt, signL, List.isPrefixOf, ByteArray.size, m1, n1]
    have a1 : opStep S 0 1 = 0 := by rw [e]; simp [signAt, signL, List.isPrefixOf, ByteArray.size, m1, n1]
    have a2 : opStep S 0 2 = 0 := by rw [e]; simp [signAt, signL, List.isPrefixOf, ByteArray.size, m1, n1]
    have a3 : opStep S 0 3 = 0 := by rw [e]; simp [signAt, signL, List.isPrefixOf, ByteArray.size, m1, n1]
    have a4 : opStep S 0 4 = 4 := by rw [e]; simp [signAt, signL, List.isPrefixOf, ByteArray.size, m1, n1]
    have a5 : opStep S 4 5 = 5 := by rw [e]; simp [signAt, signL, List.isPrefixOf, ByteArray.size, m1, n1]
    have a6 : opStep S 5 6 = 5 := by rw [e]; simp [signAt, signL, List.isPrefixOf, ByteArray.size, m1, n1]
    have a7 : opStep S 5 7 = 5 := by rw [e]; simp [signAt, signL, List.isPrefixOf, ByteArray.size, m1, n1]
    rw [a0, a1, a2, a3, a4, a5, a6, a7]
  · unfold opOf
    simp only [opUpto]
    generalize hS : toBytes ((signAt 6).data.toList ++ d :: t) = S at *
    have a0 : opStep S 0 0 = 0 := by rw [e]; simp [signAt, signL, List.isPrefixOf, ByteArray.size, m1, n1]
    have a1 : opStep S 0 1 = 0 := by rw [e]; simp [signAt, signL, List.isPrefixOf, ByteArray.size, m1, n1]
    have a2 : opStep S 0 2 = 0 := by rw [e]; simp [signAt, signL, List.isPrefixOf, ByteArray.size, m1, n1]
    have a3 : opStep S 0 3 = 0 := by rw [e]; simp [signAt, signL, List.isPrefixOf, ByteArray.size, m1, n1]
    have a4 : opStep S 0 4 = 0 := by rw [e]; simp [signAt, signL, List.isPrefixOf, ByteArray.size, m1, n1]
    have a5 : opStep S 0 5 = 0 := by rw [e]; simp [signAt, signL, List.isPrefixOf, ByteArray.size, m1, n1]
    have a6 : opStep S 0 6 = 6 := by rw [e]; simp [signAt, signL, List.isPrefixOf, ByteArray.size, m1, n1]
    have a7 : opStep S 6 7 = 6 := by rw [e]; simp [signAt, signL, List.isPrefixOf, ByteArray.size, m1, n1]
    rw [a0, a1, a2, a3, a4, a5, a6, a7]
  · unfold opOf
    simp only [opUpto]
    generalize hS : toBytes ((signAt 7).data.toList ++ d :: t) = S at *
    have a0 : opStep S 0 0 = 0 := by rw [e]; simp [signAt, signL, List.isPrefixOf, ByteArray.size, m1, n1]
    have a1 : opStep S 0 1 = 0 := by rw [e]; simp [signAt, signL, List.isPrefixOf, ByteArray.size, m1, n1]
    have a2 : opStep S 0 2 = 0 := by rw [e]; simp [signAt, signL, List.isPrefixOf, ByteArray.size, m1, n1]
    have a3 : opStep S 0 3 = 0 := by rw [e]; simp [signAt, signL, List.isPrefixOf, ByteArray.size, m1, n1]
    have a4 : opStep S 0 4 = 0 := by rw [e]; simp [signAt, signL, List.isPrefixOf, ByteArray.size, m1, n1]
    have a5 : opStep S 0 5 = 0 := by rw [e]; simp [signAt, signL, List.isPrefixOf, ByteArray.size, m1, n1]
    have a6 : opStep S 0 6 = 0 := by rw [e]; simp [signAt, signL, List.isPrefixOf, ByteArray.size, m1, n1]
    have a7 : opStep S 0 7 = 7 := by rw [e]; simp [signAt, signL, List.isPrefixOf, ByteArray.size, m1, n1]
    rw [a0, a1, a2, a3, a4, a5, a6, a7]
theorem parseVer_text {v : Ver} (hr : v.right = true) : parseVer (toBytes (textL v.a v.b v.c v.p.data.toList)) = (v, 0) := by
  have h := parse_text (show rightB v.a v.b v.c v.p = true from hr)
  unfold parseVer
  rw [show toBytes (textL v.a v.b v.c v.p.data.toList) = textB v.a v.b v.c v.p from rfl, h]; rfl
theorem zero_cmp {c : Cmp} (h : cmpRight c = true) (h0 : c.op = 0) : c = Cmp.zero := by
  rw [cmpRight, if_pos h0] at h
  simp only [cmpIsZero, Bool.and_eq_true, beq_iff_eq] at h
  obtain ⟨_, h1, h2, h3, h4⟩ := h
  obtain ⟨op, a, b, c', p⟩ := c
  simp only at h0 h1 h2 h3 h4
  subst h0; subst h1; subst h2; subst h3
  have : p = ⟨#[]⟩ := bytes_ext h4
  subst this; rfl
theorem compV_text {c : Cmp} (h : cmpRight c = true) : compV (toBytes (textC c)) = (c, true) := by
  by_cases h0 : c.op = 0
  · have := zero_cmp h h0
    subst this
    have : textC Cmp.zero = [42] := rfl
    unfold compV
    rw [this, tb_data, if_pos rfl]
  · obtain ⟨h1, h7, hr⟩ := cr_parts h h0
    obtain ⟨d, t, hd, hdig⟩ := textL_head hr
    have hk : 1 ≤ c.op.toNat ∧ c.op.toNat ≤ 7 := by omega
    have ho := opOf_sign d t hdig c.op.toNat hk.1 hk.2
    have et : textC c = (signAt c.op.toNat).data.toList ++ d :: t := by unfold textC; rw [if_neg h0, hd]
    have hne : textC c ≠ [42] := by
      rw [et]
      obtain e | e | e | e | e | e | e : c.op.toNat = 1 ∨ c.op.toNat = 2 ∨ c.op.toNat = 3 ∨ c.op.toNat = 4 ∨ c.op.toNat = 5 ∨ c.op.toNat = 6 ∨ c.op.toNat = 7 := by omega
      all_goals rw [e]; simp [signAt, signL]
    unfold compV
    rw [tb_data, if_neg hne]
    rw [← et] at ho
    rw [ho, if_neg (by omega)]
    have ex : (toBytes (textC c)).extract (signAt c.op.toNat).size (toBytes (textC c)).size = toBytes (textL c.v.a c.v.b c.v.c c.v.p.data.toList) := by
      apply bytes_ext
      rw [ext_data, tb_data, tb_data, List.take_of_length_le (by rw [tb_size]; exact Nat.le_refl _)]
      unfold textC
      rw [if_neg h0, ← data_length, List.drop_left]
    rw [ex, parseVer_text hr]
    have : ((c.op.toNat : Nat) : Int) = c.op := by omega
    simp only [this]
    rfl
theorem altV_text {l : List Cmp} (hl : l ≠ []) (h : l.all cmpRight = true) (hs : ∀ c, c ∈ l → c.v.p.size < 4294967281) : altL (toBytes (altT l)) = l ∧ altOk (toBytes (altT l)) = true := by
  rw [List.all_eq_true] at h
  have hp := pieces_join_sp (l.map textC) (by simpa using hl) (fun y hy => by
    obtain ⟨c, hc, rfl⟩ := List.mem_map.1 hy
    exact (textC_no (h c hc) (hs c hc)).1)
  have e : pieces sp (toBytes (altT l)) = (l.map textC).map toBytes := hp
  unfold altL altOk
  rw [e, List.map_map]
  refine ⟨?_, ?_⟩
  · rw [List.map_map]
    have : ∀ c, c ∈ l → (((fun t => (compV t).1) ∘ toBytes) ∘ textC) c = c := fun c hc => by
      show (compV (toBytes (textC c))).1 = c
      rw [compV_text (h c hc)]
    rw [List.map_congr_left this, List.map_id']
  · rw [List.all_eq_true]
    intro t ht
    obtain ⟨y, hy, rfl⟩ := List.mem_map.1 ht
    obtain ⟨c, hc, rfl⟩ := List.mem_map.1 hy
    show (compV (toBytes (textC c))).2 = true
    rw [compV_text (h c hc)]
theorem rangeV_text {r : Rng} (h : rngRight r = true) (hs : ∀ l, l ∈ r → ∀ c, c ∈ l → c.v.p.size < 4294967281) : rangeV (toBytes (rngTx r)) = (r, 0) := by
  obtain ⟨r1, _⟩ := rngRight_len h
  have hne : r ≠ [] := fun e => by rw [e] at r1; simp at r1
  have hin : ∀ l, l ∈ r → l ≠ [] ∧ l.all cmpRight = true := fun l hl => by
    obtain ⟨h1, h2⟩ := rngRight_in h hl
    refine ⟨fun e => ?_, h2⟩
    subst e; exact absurd h1 (by decide)
  have hp := pieces_join_bar (r.map altT) (by simpa using hne) (fun y hy => by
    obtain ⟨l, hl, rfl⟩ := List.mem_map.1 hy
    refine join_no 124 [32] (by decide) _ (fun z hz => ?_)
    obtain ⟨c, hc, rfl⟩ := List.mem_map.1 hz
    exact (textC_no (List.all_eq_true.1 (hin l hl).2 c hc) (hs l hl c hc)).2)
  have e : pieces bars (toBytes (rngTx r)) = (r.map altT).map toBytes := hp
  unfold rangeV
  rw [e]
  have e1 : (((r.map altT).map toBytes).map altL) = r := by
    rw [List.map_map, List.map_map]
    have : ∀ l, l ∈ r → ((altL ∘ toBytes) ∘ altT) l = l := fun l hl => (altV_text (hin l hl).1 (hin l hl).2 (hs l hl)).1
    rw [List.map_congr_left this, List.map_id']
  have e2 : ((r.map altT).map toBytes).all altOk = true := by
    rw [List.all_eq_true]
    intro a ha
    rw [List.map_map] at ha
    obtain ⟨l, hl, rfl⟩ := List.mem_map.1 ha
    exact (altV_text (hin l hl).1 (hin l hl).2 (hs l hl)).2
  rw [e1, if_pos ⟨e2, h⟩]
end Go.Lg.Sem.Tx

set_option linter.unusedVariables false
set_option linter.unusedSimpArgs false
namespace Go.Lg
open Go Go.RowKit

section
variable {P : Program} {G : Env} {n : Nat} {tab : Tab} {m : Store}
def evEqNil (tab : Tab) (n : Nat) (ops : List Oper) (o : Oper) (m : Store) : Option (List T × Nat) := match o.op, o.dst, gOk m ops o.guard with
  | .binOp .eql t x (.const (.slice none 0 0)) _, some d, true => match Nat.blt d n, tlk tab t, opV m x with
    | true, some ⟨_, _, .slice _, _⟩, some v => match lsOf v with
      | some xs => some (xs, d)
      | none => none
    | _, _, _ => none
  | _, _, _ => none
theorem Sq.eqNil {ops l : List Oper} {o : Oper} {xs : List T} {d : Nat} {K : Store → Prop} (hT : TabOk P tab) (h : evEqNil tab n ops o m = some (xs, d)) (k : ∀ b : Bool, (b = true → xs = []) → Sq P G n ops l ((.s d, .tr (.sc (.bool b))) :: m) K) : Sq P G n ops (o :: l) m K := by
  obtain ⟨dst, op, type, pos, after, guard⟩ := o
  unfold evEqNil at h
  simp only at h
  split at h
  · rename_i t x uu d' hgd
    split at h
    · rename_i e _ v hlt ht hv
      split at h
      · rename_i xs' hls
        simp only [Option.some.injEq, Prod.mk.injEq] at h
        obtain ⟨rfl, rfl⟩ := h
        intro Γ hΓ a w hr Q hQ
        obtain ⟨M, Ow, hr0⟩ := hr
        obtain ⟨q1, hq1⟩ := opV_ok hv hr0
        have hv' := deg_vrel hq1
        rw [lsOf_eq hls] at hv'
        have hrep : Rep w M (.ls xs') (a.eval x) := by cases hv' with | tr _ _ h => exact h
        obtain ⟨ad, cap, e1, hcase⟩ := hrep.ls_inv
        have hb : ad.isNone = true → xs' = [] := fun h => by
          rcases hcase with h1 | ⟨b, off, es, h2, _⟩
          · exact h1
          · rw [h2] at h; cases h
        have hu := hT.slice ht rfl
        have hrun : (execOp a.eval (⟨some d', .binOp .eql t x (.const (.slice none 0 0)) uu, type, pos, after, guard⟩ : Oper)).run P w = .ok (.value (.bool ad.isNone)) w := by
          have hce : a.eval (.const (.slice none 0 0)) = .slice none 0 0 := rfl
          have he := run_equal_slice_nil (P := P) w t e ad xs'.length cap hu
          simp [execOp, hce, e1, eqGuard, binOp, he]
        have hd : d' < n := Nat.lt_of_succ_le (Nat.le_of_ble_eq_true hlt)
        have hw := wanted_of hgd hr0 (o := ⟨some d', .binOp .eql t x (.const (.slice none 0 0)) uu, type, pos, after, guard⟩)
        unfold wpListIn
        rw [if_pos hw]
        refine ⟨fun _ _ => trivial, ?_⟩
        rw [show (FW Γ.rd).round = Γ.rd from rfl, semAt_of Γ.rd hrun (fun d e => by cases e), Oper.uponIn_value]
        exact k ad.isNone hb Γ hΓ _ w ⟨M, Ow, hr0.put hd (.tr _ _ (.sc _ rfl))⟩ Q hQ
      · cases h
    · cases h
  · cases h
end
end Go.Lg

set_option linter.unusedVariables false
set_option linter.unusedSimpArgs false
namespace Go.Lg
open Go Go.RowKit
section
variable {P : Program} {G : Env} {n : Nat} {tab : Tab} {m : Store}
def evStrOf (tab : Tab) (n : Nat) (ops : List Oper) (o : Oper) (m : Store) : Option (List T × Nat) := match o.op, o.dst, gOk m ops o.guard with
  | .convert src dst x, some d, true => match Nat.blt d n, tlk tab src, tlk tab dst with
    | true, some ⟨_, _, .slice e, _⟩, some ⟨_, _, .str, _⟩ => match tlk tab e, opV m x with
      | some ⟨_, _, .int .u8, _⟩, some v => match lsOf v with
        | some xs => some (xs, d)
        | none => none
      | _, _ => none
    | _, _, _ => none
  | _, _, _ => none
theorem Sq.strOf {ops l : List Oper} {o : Oper} {xs : List T} {d : Nat} {K : Store → Prop} (bs : List UInt8) (hT : TabOk P tab) (h : evStrOf tab n ops o m = some (xs, d)) (hx : xs = bs.map byteT) (h0 : bs ≠ [])
    (k : Sq P G n ops l ((.s d, .tr (.sc (.string ⟨bs.toArray⟩))) :: m) K) : Sq P G n ops (o :: l) m K := by
  obtain ⟨dst, op, type, pos, after, guard⟩ := o
  unfold evStrOf at h
  simp only at h
  split at h
  · rename_i src dst' x d' hgd
    split at h
    · rename_i e z0 s2 b2 z2 hlt hsrc hdst
      split at h
      · rename_i v' he hv
        split at h
        · rename_i xs' hls
          simp only [Option.some.injEq, Prod.mk.injEq] at h
          obtain ⟨rfl, rfl⟩ := h
          subst hx
          refine Sq.do hgd (fun Γ M Ow a w hr => ?_) k
          obtain ⟨q1, hq1⟩ := opV_ok hv hr
          have hv' := deg_vrel hq1
          rw [lsOf_eq hls] at hv'
          have hrep : Rep w M (.ls (bs.map byteT)) (a.eval x) := by cases hv' with | tr _ _ h => exact h
          have hu1 := hT.slice hsrc rfl
          have hu2 := hT.str hdst rfl
          have hu3 := hT.int he rfl
          have key : (convert src dst' (a.eval x)).run P w = .ok (.string ⟨bs.toArray⟩) w := by
            generalize hax : a.eval x = vx at hrep
            generalize hL : bs.map byteT = L at hrep
            cases hrep with
            | nil => exact absurd (List.map_eq_nil_iff.1 hL) h0
            | ls _ b off es cap f h1 h2 h3 h4 h5 h6 =>
              subst hL
              have hes : es = 1 := by
                obtain ⟨c, t, rfl⟩ : ∃ c t, bs = c :: t := by cases bs with | nil => exact absurd rfl h0 | cons c t => exact ⟨c, t, rfl⟩
                exact (h2 (byteT c) (by simp)).symm
              subst hes
              have hlen : (bs.map byteT).length = bs.length := by simp
              have := run_convert_bytes_arg (P := P) w src e hu1 hu3 b off (bs.map byteT).length cap (bs.map fun c => (c.toNat : Int)) (by simp) (fun i hi => by
                rw [hlen] at hi
                have hc := h4 i 0 (by rw [hlen]; exact hi) (by omega)
                simp only [Nat.mul_one, Nat.add_zero] at hc
                rw [hc]
                have hr := h6 i 0 (byteT bs[i]) (byteT bs[i]) (by simp [hi]) rfl
                have : f i 0 = .int .u8 bs[i].toNat := by
                  generalize hfv : f i 0 = fv at hr
                  cases hr with | sc _ _ => rfl
                rw [this]
                simp [List.getD, hi]) dst' hu2
              rw [this]
              congr 2
              unfold strOfNums
              congr 2
              rw [List.map_map]
              have : ∀ c ∈ bs, ((fun n : Int => UInt8.ofNat n.toNat) ∘ fun c : UInt8 => (c.toNat : Int)) c = c := fun c _ => by simp
              rw [List.map_congr_left this, List.map_id']
          refine ⟨_, w, ?_, M, Ow, hr.put (Nat.lt_of_succ_le (Nat.le_of_ble_eq_true hlt)) (.tr _ _ (.sc _ rfl))⟩
          simp [execOp, key]
        · cases h
      · cases h
    · cases h
  · cases h

def evIdxA (tab : Tab) (n : Nat) (ops : List Oper) (o : Oper) (m : Store) : Option (Loc × Nat × Nat × Nat × Int × Nat) := match o.op, o.dst, gOk m ops o.guard with
  | .indexAddr t x i, some d, true => match Nat.blt d n, tlk tab t with
    | true, some ⟨_, _, .array len e, _⟩ => match tlk tab e, opV m x, opV m i with
      | some ⟨es, _, _, _⟩, some (.ptr κ off), some (.tr (.sc (.int _ j))) => some (κ, off, len, es, j, d)
      | _, _, _ => none
    | _, _ => none
  | _, _, _ => none
theorem Sq.indexA {ops l : List Oper} {o : Oper} {κ : Loc} {off len es d : Nat} {j : Int} {K : Store → Prop} (hT : TabOk P tab) (h : evIdxA tab n ops o m = some (κ, off, len, es, j, d)) (h0 : 0 ≤ j) (hj : j < len)
    (k : Sq P G n ops l ((.s d, .ptr κ (off + j.toNat * es)) :: m) K) : Sq P G n ops (o :: l) m K := by
  obtain ⟨dst, op, type, pos, after, guard⟩ := o
  unfold evIdxA at h
  simp only at h
  split at h
  · rename_i t ox oi d' hgd
    split at h
    · rename_i len0 e _ hlt ht
      split at h
      · rename_i es' _ _ _ κ' off' ik j' he hv hi
        simp only [Option.some.injEq, Prod.mk.injEq] at h
        obtain ⟨rfl, rfl, rfl, rfl, rfl, rfl⟩ := h
        refine Sq.do hgd (fun Γ M Ow a w hr => ?_) k
        obtain ⟨q1, hq1⟩ := opV_ok hv hr
        obtain ⟨q2, hq2⟩ := opV_ok hi hr
        have e2 := (sc_eval (Γ := Γ) hq2).1
        obtain ⟨b, hk, hb, e1⟩ := opK_ptr (v := .unk) (Γ := Γ) (rs := []) hq1
        obtain ⟨ie, hie, hsz, _⟩ := hT.info he
        have hsz : ie.size = es' := hsz
        have hu := hT.array ht rfl
        have hin : 0 ≤ j' ∧ j' < (len0 : Int) := ⟨h0, hj⟩
        refine ⟨.pointer (some ⟨b, off' + j'.toNat * es', none⟩), w, ?_, M, Ow, hr.put (Nat.lt_of_succ_le (Nat.le_of_ble_eq_true hlt)) (.ptr κ' _ b hk hb)⟩
        simp [execOp, e1, e2, Instr.indexAt, asIntOf, run_underlying hu, hin, sizeOf, typeInfo, hie, hsz, add_lit, Instr.sureAddr]
      · cases h
    · cases h
  · cases h
/-! division -/
def evDiv (n : Nat) (ops : List Oper) (o : Oper) (m : Store) : Option (IntKind × Int × Int × Bool × Nat) := match o.op, o.dst, gOk m ops o.guard with
  | .binOp op _ x y _, some d, true => match Nat.blt d n, opV m x, opV m y with
    | true, some (.tr (.sc (.int k a))), some (.tr (.sc (.int k' b))) => match decide (k = k'), op with
      | true, .quo => some (k, a, b, true, d)
      | true, .rem => some (k, a, b, false, d)
      | _, _ => none
    | _, _, _ => none
  | _, _, _ => none
theorem Sq.div {ops l : List Oper} {o : Oper} {k : IntKind} {a b c : Int} {q : Bool} {d : Nat} {K : Store → Prop} (h : evDiv n ops o m = some (k, a, b, q, d)) (hb : b ≠ 0) (hc : (if q then k.wrap (a.tdiv b) else a.tmod b) = c)
    (k : Sq P G n ops l ((.s d, .tr (.sc (.int k c))) :: m) K) : Sq P G n ops (o :: l) m K := by
  subst hc
  obtain ⟨dst, op, type, pos, after, guard⟩ := o
  unfold evDiv at h
  simp only at h
  split at h
  · rename_i op' ty x y ty' d' hgd
    split at h
    · rename_i k1 a' k2 b' hlt hx hy
      split at h
      · rename_i hk
        obtain rfl := of_decide_eq_true hk
        simp only [Option.some.injEq, Prod.mk.injEq] at h
        obtain ⟨rfl, rfl, rfl, rfl, rfl⟩ := h
        refine Sq.do hgd (fun Γ M Ow a w hr => ?_) k
        obtain ⟨q1, hq1⟩ := opV_ok hx hr
        obtain ⟨q2, hq2⟩ := opV_ok hy hr
        refine ⟨_, w, ?_, M, Ow, hr.put (Nat.lt_of_succ_le (Nat.le_of_ble_eq_true hlt)) (.tr _ _ (.sc _ rfl))⟩
        simp [execOp, (sc_eval (Γ := Γ) hq1).1, (sc_eval (Γ := Γ) hq2).1, eqGuard, binOp, Op.intDiv, hb]
      · rename_i hk
        obtain rfl := of_decide_eq_true hk
        simp only [Option.some.injEq, Prod.mk.injEq] at h
        obtain ⟨rfl, rfl, rfl, rfl, rfl⟩ := h
        refine Sq.do hgd (fun Γ M Ow a w hr => ?_) k
        obtain ⟨q1, hq1⟩ := opV_ok hx hr
        obtain ⟨q2, hq2⟩ := opV_ok hy hr
        refine ⟨_, w, ?_, M, Ow, hr.put (Nat.lt_of_succ_le (Nat.le_of_ble_eq_true hlt)) (.tr _ _ (.sc _ rfl))⟩
        simp [execOp, (sc_eval (Γ := Γ) hq1).1, (sc_eval (Γ := Γ) hq2).1, eqGuard, binOp, Op.intDiv, hb]
      · cases h
    · cases h
  · cases h
end

theorem Rep.strs {w : World} {M : Nat → Nat → Prop} {v : Value} {xs : List ByteArray} (h : Rep w M (.ls (xs.map fun s => .sc (.string s))) v) (hlt : ∀ b k, M b k → b < w.heap.size) :
    (xs = [] ∧ ∃ a c, v = .slice a 0 c) ∨ ∃ b o c, v = .slice (some ⟨b, o, none⟩) xs.length c ∧ xs.length ≤ c ∧ b < w.heap.size ∧ ∀ j x, xs[j]? = some x → w.cell? ⟨b, o + j, none⟩ = some (.string x) := by
  generalize hL : (xs.map fun s => T.sc (.string s)) = L at h
  cases h with
  | nil a c => exact .inl ⟨List.map_eq_nil_iff.1 hL, a, c, rfl⟩
  | ls _ b off es cap f h1 h2 h3 h4 h5 h6 =>
    subst hL
    rw [List.length_map] at *
    by_cases h0 : xs = []
    · subst h0; exact .inl ⟨rfl, _, _, rfl⟩
    · have hes : es = 1 := by
        obtain ⟨c, t, rfl⟩ : ∃ c t, xs = c :: t := by cases xs with | nil => exact absurd rfl h0 | cons c t => exact ⟨c, t, rfl⟩
        exact (h2 (.sc (.string c)) (by simp)).symm
      subst hes
      have hpos : 0 < xs.length := List.length_pos_iff.2 h0
      refine .inr ⟨b, off, cap, rfl, h1, hlt b _ (h3 0 0 hpos (by omega)), fun j x hj => ?_⟩
      have hjl := (List.getElem?_eq_some_iff.1 hj).1
      have hc := h4 j 0 hjl (by omega)
      simp only [Nat.mul_one, Nat.add_zero] at hc
      rw [hc]
      have hr := h6 j 0 (.sc (.string x)) (.sc (.string x)) (by simp [hj]) rfl
      generalize hfv : f j 0 = fv at hr
      cases hr with | sc _ _ => rfl
end Go.Lg

set_option linter.unusedVariables false
set_option linter.unusedSimpArgs false
namespace Go.Lg.Tryz
open Go Go.Proofs Go.RowKit Go.Lib Go.Shelf Go.Lg.Sem Go.Lg.Sem.Tx
theorem join_ok (xs : List ByteArray) (sep : ByteArray) (hn : xs.length ≤ 140737488355328) (hl : (Lib.join (xs.map (·.data.toList)) sep.data.toList).length ≤ 140737488355328) :
    Fn Tryz.prog Gw 50 [.tr (.ls (xs.map strT)), str sep] [] (· = str (toBytes (Lib.join (xs.map (·.data.toList)) sep.data.toList))) := by
  refine ⟨⟨_, Tryz.func50, rfl, rfl⟩, fun M Ow w cargs hgw hp => ?_⟩
  obtain ⟨v0, v1, hc⟩ : ∃ v0 v1, cargs = #[v0, v1] := by
    have hs := hp.size
    have hs : cargs.size = 2 := hs
    exact ⟨cargs[0], cargs[1], by apply Array.ext; · simpa using hs
                                  · intro i h1 h2; simp at h2; match i, h2 with | 0, _ | 1, _ => rfl⟩
  subst hc
  have h0 : VRel w M (fun κ => Ow κ 0) (.tr (.ls (xs.map strT))) v0 := hp.arg 0 _ _ rfl rfl
  have h1 : VRel w M (fun κ => Ow κ 0) (str sep) v1 := hp.arg 1 _ _ rfl rfl
  have h0 : Rep w M (.ls (xs.map strT)) v0 := by cases h0 with | tr _ _ h => exact h
  obtain rfl : v1 = .string sep := by cases h1 with | tr _ _ h => cases h; rfl
  have post : ∀ (e : Ending) (w' : World), e = .returned (.string (toBytes (Lib.join (xs.map (·.data.toList)) sep.data.toList))) ∧ Below w.heap.size w w' →
      ∃ cv, e = .returned cv ∧ CPost Tryz.prog M (· = str (toBytes (Lib.join (xs.map (·.data.toList)) sep.data.toList))) w cv w' := fun e w' ⟨he, hb⟩ =>
    ⟨_, he, hb, M, _, none, rfl, fun _ _ h => h, fun _ _ h => .inl h, fun b k h => Nat.lt_of_lt_of_le (hp.mlt b k h) hb.size, (fun b e => nomatch e), VRel.tr _ _ (Rep.sc _ rfl)⟩
  rcases h0.strs hp.mlt with ⟨rfl, a, c, rfl⟩ | ⟨b, o, c, rfl, hcap, hbk, hcells⟩
  · refine (Tryz.strings_Join_none a c sep w).mono fun e w' ⟨he, hw⟩ => post e w' ⟨?_, ?_⟩
    · rw [he, List.map_nil, Lib.join_nil]; rfl
    · subst hw; exact Below.refl _ _
  · exact (Tryz.strings_Join b o c xs sep w hcells hbk hn hcap hl).mono fun e w' ⟨he, hw⟩ => post e w' ⟨he, hw⟩
theorem verText_ok (v : Ver) (hv : v.p.size ≤ 1000) : Fn Tryz.prog Gw 68 [.tr (Ver.t v)] [] (· = .tup [str (if v.right then toBytes (textL v.a v.b v.c v.p.data.toList) else ⟨#[]⟩), int (if v.right then 0 else 12)]) := by
  have hr := rightAny_ok v (by omega)
  obtain ⟨a, b, c, p⟩ := v
  cases h : Ver.right ⟨a, b, c, p⟩
  · rw [h] at hr
    refine Fn.of tab_ok Tryz.func68 rfl (by decide) (by simp [Tryz.f68]) rfl (fun κ v h => by cases h) Gw.below ?_
    repeat' (first | refine Tr.seq ?_ | refine Tr.region ?_ | refine Sq.ev tab_ok rfl rfl ?_ | refine Sq.nil ?_ | (refine Sq.guard rfl rfl (fun _ => ?_) (fun _ => ?_) <;> refine Sq.ev tab_ok rfl rfl ?_) | (refine Tr.cond rfl (fun _ => ?_) (fun _ => ?_) <;> try (rename_i h; cases h; done)) | refine Tr.block ?_ | refine Tr.skip ?_ | refine Tr.ret ⟨_, rfl, ?_⟩)
    refine Sq.callv rfl (hr) ?_
    repeat' (first | refine Tr.seq ?_ | refine Tr.region ?_ | refine Sq.ev tab_ok rfl rfl ?_ | refine Sq.nil ?_ | (refine Sq.guard rfl rfl (fun _ => ?_) (fun _ => ?_) <;> refine Sq.ev tab_ok rfl rfl ?_) | (refine Tr.cond rfl (fun _ => ?_) (fun _ => ?_) <;> try (rename_i h; cases h; done)) | refine Tr.block ?_ | refine Tr.skip ?_ | refine Tr.ret ⟨_, rfl, ?_⟩)
    rfl
  · rw [h] at hr
    obtain ⟨ha, hb, hc, hp⟩ : inN a = true ∧ inN b = true ∧ inN c = true ∧ preO p = true := rightB_iff.1 h
    have ia := inN_iff.1 ha
    have ib := inN_iff.1 hb
    have ic := inN_iff.1 hc
    have la := itoa_len ha
    have lb := itoa_len hb
    have lc := itoa_len hc
    have oa := itoa_ok a (by omega) (by omega)
    have ob := itoa_ok b (by omega) (by omega)
    have oc := itoa_ok c (by omega) (by omega)
    have et : toBytes (textL a b c p.data.toList) = if p = ⟨#[]⟩ then toBytes (Lib.itoa a) ++ ⟨#[46]⟩ ++ toBytes (Lib.itoa b) ++ ⟨#[46]⟩ ++ toBytes (Lib.itoa c) else toBytes (Lib.itoa a) ++ ⟨#[46]⟩ ++ toBytes (Lib.itoa b) ++ ⟨#[46]⟩ ++ toBytes (Lib.itoa c) ++ (⟨#[45]⟩ ++ p) := by
      unfold textL numsT
      by_cases hp0 : p = ⟨#[]⟩
      · subst hp0
        rw [if_pos rfl, if_pos rfl]
        show _ = toBytes _ ++ toBytes [46] ++ toBytes _ ++ toBytes [46] ++ toBytes _
        simp only [tb_app, List.append_assoc]; simp
      · have : p.data.toList ≠ [] := fun e => hp0 (bytes_ext e)
        rw [if_neg this, if_neg hp0]
        show _ = toBytes _ ++ toBytes [46] ++ toBytes _ ++ toBytes [46] ++ toBytes _ ++ (toBytes [45] ++ p)
        conv => rhs; rw [← toBytes_data p]
        simp only [tb_app, List.append_assoc]; simp
    rw [← tb_size] at la lb lc
    simp only [if_true]
    rw [et]
    generalize toBytes (Lib.itoa a) = A at *
    generalize toBytes (Lib.itoa b) = B at *
    generalize toBytes (Lib.itoa c) = C at *
    have s1 : (⟨#[46]⟩ : ByteArray).size = 1 := rfl
    have s2 : (⟨#[45]⟩ : ByteArray).size = 1 := rfl
    have hv : p.size ≤ 1000 := hv
    refine Fn.of tab_ok Tryz.func68 rfl (by decide) (by simp [Tryz.f68]) rfl (fun κ v h => by cases h) Gw.below ?_
    repeat' (first | refine Tr.seq ?_ | refine Tr.region ?_ | refine Sq.ev tab_ok rfl rfl ?_ | refine Sq.nil ?_ | (refine Sq.guard rfl rfl (fun _ => ?_) (fun _ => ?_) <;> refine Sq.ev tab_ok rfl rfl ?_) | (refine Tr.cond rfl (fun _ => ?_) (fun _ => ?_) <;> try (rename_i h; cases h; done)) | refine Tr.block ?_ | refine Tr.skip ?_ | refine Tr.ret ⟨_, rfl, ?_⟩)
    refine Sq.callv rfl (hr) ?_
    repeat' (first | refine Tr.seq ?_ | refine Tr.region ?_ | refine Sq.ev tab_ok rfl rfl ?_ | refine Sq.nil ?_ | (refine Sq.guard rfl rfl (fun _ => ?_) (fun _ => ?_) <;> refine Sq.ev tab_ok rfl rfl ?_) | (refine Tr.cond rfl (fun _ => ?_) (fun _ => ?_) <;> try (rename_i h; cases h; done)) | refine Tr.block ?_ | refine Tr.skip ?_ | refine Tr.ret ⟨_, rfl, ?_⟩)
    refine Tr.drawn ( DSq.ev tab_ok rfl rfl <| DSq.ev tab_ok rfl rfl <| DSq.call rfl (fun _ => rfl) (oa) <| DSq.one rfl (fun q K hK => Sq.cat rfl (by omega) (Sq.nil hK)) <| DSq.ev tab_ok rfl rfl <| DSq.ev tab_ok rfl rfl <| DSq.call rfl (fun _ => rfl) (ob) <| DSq.one rfl (fun q K hK => Sq.cat rfl (by simp only [ByteArray.size_append]; omega) (Sq.nil hK)) <| DSq.one rfl (fun q K hK => Sq.cat rfl (by simp only [ByteArray.size_append]; omega) (Sq.nil hK)) <| DSq.ev tab_ok rfl rfl <| DSq.ev tab_ok rfl rfl <| DSq.call rfl (fun _ => rfl) (oc) <| DSq.one rfl (fun q K hK => Sq.cat rfl (by simp only [ByteArray.size_append]; omega) (Sq.nil hK)) <| DSq.ev tab_ok rfl rfl <| DSq.nil _) mix_ok rfl ?_
    repeat' (first | refine Tr.seq ?_ | refine Tr.region ?_ | refine Sq.ev tab_ok rfl rfl ?_ | refine Sq.nil ?_ | (refine Sq.guard rfl rfl (fun _ => ?_) (fun _ => ?_) <;> refine Sq.ev tab_ok rfl rfl ?_) | (refine Tr.cond rfl (fun _ => ?_) (fun _ => ?_) <;> try (rename_i h; cases h; done)) | refine Tr.block ?_ | refine Tr.skip ?_ | refine Tr.ret ⟨_, rfl, ?_⟩)
    · rename_i h2
      have : p ≠ ⟨#[]⟩ := fun e => by subst e; simp at h2
      rw [if_neg this]
      refine Sq.cat rfl (by omega) ?_
      refine Sq.cat rfl (by simp only [ByteArray.size_append]; omega) ?_
      repeat' (first | refine Tr.seq ?_ | refine Tr.region ?_ | refine Sq.ev tab_ok rfl rfl ?_ | refine Sq.nil ?_ | (refine Sq.guard rfl rfl (fun _ => ?_) (fun _ => ?_) <;> refine Sq.ev tab_ok rfl rfl ?_) | (refine Tr.cond rfl (fun _ => ?_) (fun _ => ?_) <;> try (rename_i h; cases h; done)) | refine Tr.block ?_ | refine Tr.skip ?_ | refine Tr.ret ⟨_, rfl, ?_⟩)
      rfl
    · rename_i h2
      have : p = ⟨#[]⟩ := by rw [ba_toList] at h2; exact bytes_ext (by simpa using h2)
      rw [if_pos this]
end Go.Lg.Tryz

set_option linter.unusedVariables false
set_option linter.unusedSimpArgs false
namespace Go.Lg.Tryz
open Go Go.Proofs Go.RowKit Go.Lib Go.Shelf Go.Lg.Sem Go.Lg.Sem.Tx
theorem textL_len {v : Ver} (h : v.right = true) : (textL v.a v.b v.c v.p.data.toList).length ≤ 21 + v.p.size := by
  obtain ⟨ha, hb, hc, hp⟩ : inN v.a = true ∧ inN v.b = true ∧ inN v.c = true ∧ preO v.p = true := rightB_iff.1 h
  have la := itoa_len ha
  have lb := itoa_len hb
  have lc := itoa_len hc
  have := data_length v.p
  unfold textL numsT
  split <;> simp only [List.length_append, List.length_cons, List.length_nil] <;> omega
theorem sign_size {i : Nat} (h : i < 8) : (signAt i).size ≤ 2 := by
  match i, h with
  | 0, _ | 1, _ | 2, _ | 3, _ | 4, _ | 5, _ | 6, _ | 7, _ => decide
theorem textC_len {c : Cmp} (h : cmpRight c = true) : (textC c).length ≤ 23 + c.v.p.size := by
  unfold textC
  split
  · simp; omega
  · rename_i h0
    obtain ⟨h1, h7, hr⟩ := cr_parts h h0
    have h2 := textL_len hr
    have h3 := sign_size (i := c.op.toNat) (by omega)
    rw [List.length_append, data_length]; omega
theorem textC_sign {c : Cmp} (h0 : c.op ≠ 0) : toBytes (textC c) = signAt c.op.toNat ++ toBytes (textL c.v.a c.v.b c.v.c c.v.p.data.toList) := by
  unfold textC
  rw [if_neg h0, ← tb_app, toBytes_data]
theorem join_len (sep : List UInt8) (B : Nat) : ∀ ys : List (List UInt8), (∀ y, y ∈ ys → y.length ≤ B) → (Lib.join ys sep).length ≤ ys.length * (B + sep.length)
  | [], _ => by rw [Lib.join_nil]; simp
  | [x], h => by rw [Lib.join_one]; have := h x (by simp); simp; omega
  | x :: y :: r, h => by
    have ih := join_len sep B (y :: r) (fun z hz => h z (List.mem_cons_of_mem _ hz))
    have h1 := h x (by simp)
    rw [join_cons2, List.length_append, List.length_append, List.length_cons, Nat.add_mul]
    omega
abbrev altB (l : List Cmp) : ByteArray := toBytes (altT l)
theorem altT_len {l : List Cmp} (hl : l.length ≤ 8) (h : l.all cmpRight = true) (hs : ∀ c, c ∈ l → c.v.p.size ≤ 100) : (altT l).length ≤ 992 := by
  rw [List.all_eq_true] at h
  have := join_len [32] 123 (l.map textC) (fun y hy => by
    obtain ⟨c, hc, rfl⟩ := List.mem_map.1 hy
    have h1 := textC_len (h c hc)
    have h2 := hs c hc
    omega)
  rw [List.length_map] at this
  show (Lib.join (l.map textC) [32]).length ≤ 992
  simp only [List.length_cons, List.length_nil] at this
  omega
theorem rngTx_len {r : Rng} (h : rngRight r = true) (hs : ∀ l, l ∈ r → ∀ c, c ∈ l → c.v.p.size ≤ 100) : (rngTx r).length ≤ 8000 := by
  have := join_len barL 992 (r.map altT) (fun y hy => by
    obtain ⟨l, hl, rfl⟩ := List.mem_map.1 hy
    obtain ⟨h1, h2⟩ := rngRight_in h hl
    unfold sizedB at h1
    simp only [Bool.and_eq_true, decide_eq_true_eq] at h1
    exact altT_len (by omega) h2 (hs l hl))
  have h8 := (rngRight_len h).2
  rw [List.length_map] at this
  have e : barL.length = 4 := rfl
  rw [e] at this
  show (Lib.join (r.map altT) barL).length ≤ 8000
  omega
theorem compText_ok (c : Cmp) (h : cmpRight c = true) (hs : c.v.p.size ≤ 1000) : Fn Tryz.prog Gw 49 [.tr (Cmp.t c)] [] (· = str (toBytes (textC c))) := by
  by_cases h0 : c.op = 0
  · have := zero_cmp h h0
    subst this
    refine Fn.of tab_ok Tryz.func49 rfl (by decide) (by simp [Tryz.f49]) rfl (fun κ v h => by cases h) Gw.below ?_
    repeat' (first | refine Tr.seq ?_ | refine Tr.region ?_ | refine Sq.ev tab_ok rfl rfl ?_ | refine Sq.nil ?_ | (refine Sq.guard rfl rfl (fun _ => ?_) (fun _ => ?_) <;> refine Sq.ev tab_ok rfl rfl ?_) | (refine Tr.cond rfl (fun _ => ?_) (fun _ => ?_) <;> try (rename_i h; cases h; done)) | refine Tr.block ?_ | refine Tr.skip ?_ | refine Tr.ret ⟨_, rfl, ?_⟩)
    refine Sq.callv rfl (signs_ok) ?_
    repeat' (first | refine Tr.seq ?_ | refine Tr.region ?_ | refine Sq.ev tab_ok rfl rfl ?_ | refine Sq.nil ?_ | (refine Sq.guard rfl rfl (fun _ => ?_) (fun _ => ?_) <;> refine Sq.ev tab_ok rfl rfl ?_) | (refine Tr.cond rfl (fun _ => ?_) (fun _ => ?_) <;> try (rename_i h; cases h; done)) | refine Tr.block ?_ | refine Tr.skip ?_ | refine Tr.ret ⟨_, rfl, ?_⟩)
    refine Sq.index (x := strT (signAt 0)) tab_ok rfl (by omega) (by rfl) rfl ?_
    repeat' (first | refine Tr.seq ?_ | refine Tr.region ?_ | refine Sq.ev tab_ok rfl rfl ?_ | refine Sq.nil ?_ | (refine Sq.guard rfl rfl (fun _ => ?_) (fun _ => ?_) <;> refine Sq.ev tab_ok rfl rfl ?_) | (refine Tr.cond rfl (fun _ => ?_) (fun _ => ?_) <;> try (rename_i h; cases h; done)) | refine Tr.block ?_ | refine Tr.skip ?_ | refine Tr.ret ⟨_, rfl, ?_⟩)
    rfl
  · obtain ⟨h1, h7, hr⟩ := cr_parts h h0
    have hv := verText_ok c.v hs
    rw [hr, if_pos rfl, if_pos rfl] at hv
    rw [textC_sign h0]
    have hz1 := sign_size (i := c.op.toNat) (by omega)
    have hz2 : (toBytes (textL c.v.a c.v.b c.v.c c.v.p.data.toList)).size ≤ 1100 := by rw [tb_size]; have := textL_len hr; omega
    have hsg : (signL.map strT)[c.op.toNat]? = some (strT (signAt c.op.toNat)) := sign_at (by omega)
    generalize toBytes (textL c.v.a c.v.b c.v.c c.v.p.data.toList) = X at *
    refine Fn.of tab_ok Tryz.func49 rfl (by decide) (by simp [Tryz.f49]) rfl (fun κ v h => by cases h) Gw.below ?_
    repeat' (first | refine Tr.seq ?_ | refine Tr.region ?_ | refine Sq.ev tab_ok rfl rfl ?_ | refine Sq.nil ?_ | (refine Sq.guard rfl rfl (fun _ => ?_) (fun _ => ?_) <;> refine Sq.ev tab_ok rfl rfl ?_) | (refine Tr.cond rfl (fun _ => ?_) (fun _ => ?_) <;> try (rename_i h; cases h; done)) | refine Tr.block ?_ | refine Tr.skip ?_ | refine Tr.ret ⟨_, rfl, ?_⟩)
    · rename_i h2; exfalso; apply h0; simpa using h2
    · refine Sq.callv rfl (hv) ?_
      repeat' (first | refine Tr.seq ?_ | refine Tr.region ?_ | refine Sq.ev tab_ok rfl rfl ?_ | refine Sq.nil ?_ | (refine Sq.guard rfl rfl (fun _ => ?_) (fun _ => ?_) <;> refine Sq.ev tab_ok rfl rfl ?_) | (refine Tr.cond rfl (fun _ => ?_) (fun _ => ?_) <;> try (rename_i h; cases h; done)) | refine Tr.block ?_ | refine Tr.skip ?_ | refine Tr.ret ⟨_, rfl, ?_⟩)
      refine Tr.drawn ( DSq.call rfl (fun _ => rfl) (signs_ok) <| DSq.ev tab_ok rfl rfl <| DSq.ev tab_ok rfl rfl <| DSq.one rfl (fun q K hK => Sq.index (x := strT (signAt c.op.toNat)) tab_ok rfl (by omega) (hsg) rfl (Sq.nil hK)) <| DSq.ev tab_ok rfl rfl <| DSq.ev tab_ok rfl rfl <| DSq.one rfl (fun q K hK => Sq.cat rfl (by omega) (Sq.nil hK)) <| DSq.ev tab_ok rfl rfl <| DSq.nil _) mix_ok rfl ?_
      repeat' (first | refine Tr.seq ?_ | refine Tr.region ?_ | refine Sq.ev tab_ok rfl rfl ?_ | refine Sq.nil ?_ | (refine Sq.guard rfl rfl (fun _ => ?_) (fun _ => ?_) <;> refine Sq.ev tab_ok rfl rfl ?_) | (refine Tr.cond rfl (fun _ => ?_) (fun _ => ?_) <;> try (rename_i h; cases h; done)) | refine Tr.block ?_ | refine Tr.skip ?_ | refine Tr.ret ⟨_, rfl, ?_⟩)
      rfl
theorem rngText_ok (r : Rng) (hok : r.ok) (hn : r.length ≤ 1000) (hs : ∀ l, l ∈ r → ∀ c, c ∈ l → c.v.p.size ≤ 100) :
    Fn Tryz.prog Gw 26 [.tr (rngT r)] [] (· = .tup [str (if rngRight r then toBytes (rngTx r) else ⟨#[]⟩), int (if rngRight r then 0 else 12)]) := by
  have hr := rngRight_ok r hok (by omega)
  cases h : rngRight r
  · rw [h] at hr
    refine Fn.of tab_ok Tryz.func26 rfl (by decide) (by simp [Tryz.f26]) rfl (fun κ v h => by cases h) Gw.below ?_
    repeat' (first | refine Tr.seq ?_ | refine Tr.region ?_ | refine Sq.ev tab_ok rfl rfl ?_ | refine Sq.nil ?_ | (refine Sq.guard rfl rfl (fun _ => ?_) (fun _ => ?_) <;> refine Sq.ev tab_ok rfl rfl ?_) | (refine Tr.cond rfl (fun _ => ?_) (fun _ => ?_) <;> try (rename_i h; cases h; done)) | refine Tr.block ?_ | refine Tr.skip ?_ | refine Tr.ret ⟨_, rfl, ?_⟩)
    refine Sq.callv rfl (hr) ?_
    repeat' (first | refine Tr.seq ?_ | refine Tr.region ?_ | refine Sq.ev tab_ok rfl rfl ?_ | refine Sq.nil ?_ | (refine Sq.guard rfl rfl (fun _ => ?_) (fun _ => ?_) <;> refine Sq.ev tab_ok rfl rfl ?_) | (refine Tr.cond rfl (fun _ => ?_) (fun _ => ?_) <;> try (rename_i h; cases h; done)) | refine Tr.block ?_ | refine Tr.skip ?_ | refine Tr.ret ⟨_, rfl, ?_⟩)
    rfl
  rw [h] at hr
  have h8 := (rngRight_len h).2
  refine Fn.of tab_ok Tryz.func26 rfl (by decide) (by simp [Tryz.f26]) rfl (fun κ v h => by cases h) Gw.below ?_
  repeat' (first | refine Tr.seq ?_ | refine Tr.region ?_ | refine Sq.ev tab_ok rfl rfl ?_ | refine Sq.nil ?_ | (refine Sq.guard rfl rfl (fun _ => ?_) (fun _ => ?_) <;> refine Sq.ev tab_ok rfl rfl ?_) | (refine Tr.cond rfl (fun _ => ?_) (fun _ => ?_) <;> try (rename_i h; cases h; done)) | refine Tr.block ?_ | refine Tr.skip ?_ | refine Tr.ret ⟨_, rfl, ?_⟩)
  refine Sq.callv rfl (hr) ?_
  repeat' (first | refine Tr.seq ?_ | refine Tr.region ?_ | refine Sq.ev tab_ok rfl rfl ?_ | refine Sq.nil ?_ | (refine Sq.guard rfl rfl (fun _ => ?_) (fun _ => ?_) <;> refine Sq.ev tab_ok rfl rfl ?_) | (refine Tr.cond rfl (fun _ => ?_) (fun _ => ?_) <;> try (rename_i h; cases h; done)) | refine Tr.block ?_ | refine Tr.skip ?_ | refine Tr.ret ⟨_, rfl, ?_⟩)
  refine Tr.loopS (fun i : Nat => [(.s 1, .ptr (.l 1) 0), (.l 1, .blk 25 [.tr (.ls (r.map cmpsT))]), (.s 4, .own 9 (((r.take i).map altB).map strT)), (.s 14, .tr (.ls (r.map cmpsT))), (.s 15, int (r.map cmpsT).length), (.s 16, int i)]) (fun i => r.length - i) (fun i => i ≤ r.length)
    0 (by omega) (Sub.app (l := [_, _, _, _, _, _]) (H := []) ⟨rfl, rfl, rfl, rfl, rfl, rfl, trivial⟩ (fun κ v h => nomatch h)) ?_
  rintro i hi
  repeat' (first | refine Tr.seq ?_ | refine Tr.region ?_ | refine Sq.ev tab_ok rfl rfl ?_ | refine Sq.nil ?_ | (refine Sq.guard rfl rfl (fun _ => ?_) (fun _ => ?_) <;> refine Sq.ev tab_ok rfl rfl ?_) | (refine Tr.cond rfl (fun _ => ?_) (fun _ => ?_) <;> try (rename_i h; cases h; done)) | refine Tr.block ?_ | refine Tr.skip ?_ | refine Tr.ret ⟨_, rfl, ?_⟩)
  · rename_i h2
    have hlt : i < r.length := by simp only [List.length_map, decide_eq_true_eq] at h2; omega
    obtain ⟨l, hl⟩ : ∃ l, r[i] = l := ⟨_, rfl⟩
    have hlm : l ∈ r := hl ▸ List.getElem_mem hlt
    have he : (r.map cmpsT)[i]? = some (cmpsT l) := by rw [List.getElem?_map, List.getElem?_eq_getElem hlt, hl]; rfl
    obtain ⟨hl8, hall⟩ := rngRight_in h hlm
    have hl8 : l.length ≤ 8 := by
      unfold sizedB at hl8
      simp only [Bool.and_eq_true, decide_eq_true_eq] at hl8
      omega
    have hst : (r.take (i + 1)).map altB = (r.take i).map altB ++ [altB l] := by rw [List.take_succ_eq_append_getElem hlt, hl, List.map_append]; rfl
    refine Sq.index (x := cmpsT l) tab_ok rfl (by omega) (by simpa using he) rfl ?_
    repeat' (first | refine Tr.seq ?_ | refine Tr.region ?_ | refine Sq.ev tab_ok rfl rfl ?_ | refine Sq.nil ?_ | (refine Sq.guard rfl rfl (fun _ => ?_) (fun _ => ?_) <;> refine Sq.ev tab_ok rfl rfl ?_) | (refine Tr.cond rfl (fun _ => ?_) (fun _ => ?_) <;> try (rename_i h; cases h; done)) | refine Tr.block ?_ | refine Tr.skip ?_ | refine Tr.ret ⟨_, rfl, ?_⟩)
    refine Tr.loopS (fun k : Nat => [(.s 1, .ptr (.l 1) 0), (.l 1, .blk 25 [.tr (.ls (r.map cmpsT))]), (.s 4, .own 9 (((r.take i).map altB).map strT)), (.s 14, .tr (.ls (r.map cmpsT))), (.s 15, int (r.map cmpsT).length), (.s 16, int i),
        (.s 7, .own 9 (((l.take k).map fun c => toBytes (textC c)).map strT)), (.s 20, .tr (cmpsT l)), (.s 21, int (l.map Cmp.t).length), (.s 22, int k)]) (fun k => l.length - k) (fun k => k ≤ l.length)
      0 (by omega) (Sub.app (l := [_, _, _, _, _, _, _, _, _, _]) (H := []) ⟨rfl, rfl, rfl, rfl, rfl, rfl, rfl, rfl, rfl, rfl, trivial⟩ (fun κ v h => nomatch h)) ?_
    rintro k hk
    repeat' (first | refine Tr.seq ?_ | refine Tr.region ?_ | refine Sq.ev tab_ok rfl rfl ?_ | refine Sq.nil ?_ | (refine Sq.guard rfl rfl (fun _ => ?_) (fun _ => ?_) <;> refine Sq.ev tab_ok rfl rfl ?_) | (refine Tr.cond rfl (fun _ => ?_) (fun _ => ?_) <;> try (rename_i h; cases h; done)) | refine Tr.block ?_ | refine Tr.skip ?_ | refine Tr.ret ⟨_, rfl, ?_⟩)
    · rename_i h3
      have hlt2 : k < l.length := by simp only [List.length_map, decide_eq_true_eq] at h3; omega
      obtain ⟨c, hc⟩ : ∃ c, l[k] = c := ⟨_, rfl⟩
      have hcm : c ∈ l := hc ▸ List.getElem_mem hlt2
      have hce : (l.map Cmp.t)[k]? = some (Cmp.t c) := by rw [List.getElem?_map, List.getElem?_eq_getElem hlt2, hc]; rfl
      have hT := compText_ok c (List.all_eq_true.1 hall c hcm) (by have := hs l hlm c hcm; omega)
      have hst2 : (l.take (k + 1)).map (fun c => toBytes (textC c)) = (l.take k).map (fun c => toBytes (textC c)) ++ [toBytes (textC c)] := by rw [List.take_succ_eq_append_getElem hlt2, hc, List.map_append]; rfl
      refine Sq.index (x := Cmp.t c) tab_ok rfl (by omega) (by simpa using hce) rfl ?_
      repeat' (first | refine Tr.seq ?_ | refine Tr.region ?_ | refine Sq.ev tab_ok rfl rfl ?_ | refine Sq.nil ?_ | (refine Sq.guard rfl rfl (fun _ => ?_) (fun _ => ?_) <;> refine Sq.ev tab_ok rfl rfl ?_) | (refine Tr.cond rfl (fun _ => ?_) (fun _ => ?_) <;> try (rename_i h; cases h; done)) | refine Tr.block ?_ | refine Tr.skip ?_ | refine Tr.ret ⟨_, rfl, ?_⟩)
      refine Sq.callv rfl (hT) ?_
      repeat' (first | refine Tr.seq ?_ | refine Tr.region ?_ | refine Sq.ev tab_ok rfl rfl ?_ | refine Sq.nil ?_ | (refine Sq.guard rfl rfl (fun _ => ?_) (fun _ => ?_) <;> refine Sq.ev tab_ok rfl rfl ?_) | (refine Tr.cond rfl (fun _ => ?_) (fun _ => ?_) <;> try (rename_i h; cases h; done)) | refine Tr.block ?_ | refine Tr.skip ?_ | refine Tr.ret ⟨_, rfl, ?_⟩)
      refine Sq.append tab_ok rfl (fun y hy => by simp only [List.mem_singleton] at hy; subst hy; rfl) (by simp; omega) ?_
      repeat' (first | refine Tr.seq ?_ | refine Tr.region ?_ | refine Sq.ev tab_ok rfl rfl ?_ | refine Sq.nil ?_ | (refine Sq.guard rfl rfl (fun _ => ?_) (fun _ => ?_) <;> refine Sq.ev tab_ok rfl rfl ?_) | (refine Tr.cond rfl (fun _ => ?_) (fun _ => ?_) <;> try (rename_i h; cases h; done)) | refine Tr.block ?_ | refine Tr.skip ?_ | refine Tr.ret ⟨_, rfl, ?_⟩)
      exact ⟨k + 1, by omega, by omega, Sub.app (l := [_, _, _, _, _, _, _, _, _, _]) (H := []) ⟨rfl, rfl, rfl, rfl, rfl, rfl, congrArg some (congrArg (AV.own _) (by rw [hst2, List.map_append]; rfl)), rfl, rfl, congrArg some (wrapz (by omega) (by omega) (by omega)), trivial⟩ (fun κ v h => nomatch h)⟩
    · rename_i h3
      have hge : l.length ≤ k := by simp only [List.length_map, decide_eq_false_iff_not] at h3; omega
      rw [List.take_of_length_le hge]
      have ej : Lib.join ((l.map fun c => toBytes (textC c)).map (·.data.toList)) (⟨#[32]⟩ : ByteArray).data.toList = altT l := by
        unfold altT
        rw [List.map_map]
        congr 1
      have hal := altT_len hl8 hall (hs l hlm)
      have hJ := join_ok (l.map fun c => toBytes (textC c)) ⟨#[32]⟩ (by rw [List.length_map]; omega) (by rw [ej]; omega)
      rw [ej] at hJ
      refine Tr.exit ?_
      repeat' (first | refine Tr.seq ?_ | refine Tr.region ?_ | refine Sq.ev tab_ok rfl rfl ?_ | refine Sq.nil ?_ | (refine Sq.guard rfl rfl (fun _ => ?_) (fun _ => ?_) <;> refine Sq.ev tab_ok rfl rfl ?_) | (refine Tr.cond rfl (fun _ => ?_) (fun _ => ?_) <;> try (rename_i h; cases h; done)) | refine Tr.block ?_ | refine Tr.skip ?_ | refine Tr.ret ⟨_, rfl, ?_⟩)
      refine Sq.callv rfl (hJ) ?_
      repeat' (first | refine Tr.seq ?_ | refine Tr.region ?_ | refine Sq.ev tab_ok rfl rfl ?_ | refine Sq.nil ?_ | (refine Sq.guard rfl rfl (fun _ => ?_) (fun _ => ?_) <;> refine Sq.ev tab_ok rfl rfl ?_) | (refine Tr.cond rfl (fun _ => ?_) (fun _ => ?_) <;> try (rename_i h; cases h; done)) | refine Tr.block ?_ | refine Tr.skip ?_ | refine Tr.ret ⟨_, rfl, ?_⟩)
      refine Sq.append tab_ok rfl (fun y hy => by simp only [List.mem_singleton] at hy; subst hy; rfl) (by simp; omega) ?_
      repeat' (first | refine Tr.seq ?_ | refine Tr.region ?_ | refine Sq.ev tab_ok rfl rfl ?_ | refine Sq.nil ?_ | (refine Sq.guard rfl rfl (fun _ => ?_) (fun _ => ?_) <;> refine Sq.ev tab_ok rfl rfl ?_) | (refine Tr.cond rfl (fun _ => ?_) (fun _ => ?_) <;> try (rename_i h; cases h; done)) | refine Tr.block ?_ | refine Tr.skip ?_ | refine Tr.ret ⟨_, rfl, ?_⟩)
      exact ⟨i + 1, by omega, by omega, Sub.app (l := [_, _, _, _, _, _]) (H := []) ⟨rfl, rfl, congrArg some (congrArg (AV.own _) (by rw [hst, List.map_append]; rfl)), rfl, rfl, congrArg some (wrapz (by omega) (by omega) (by omega)), trivial⟩ (fun κ v h => nomatch h)⟩
  · rename_i h2
    have hge : r.length ≤ i := by simp only [List.length_map, decide_eq_false_iff_not] at h2; omega
    rw [List.take_of_length_le hge]
    have ej : Lib.join ((r.map altB).map (·.data.toList)) (⟨#[32, 124, 124, 32]⟩ : ByteArray).data.toList = rngTx r := by
      unfold rngTx
      rw [List.map_map]
      congr 1
    have hrl := rngTx_len h hs
    have hJ := join_ok (r.map altB) ⟨#[32, 124, 124, 32]⟩ (by rw [List.length_map]; omega) (by rw [ej]; omega)
    rw [ej] at hJ
    refine Tr.exit ?_
    repeat' (first | refine Tr.seq ?_ | refine Tr.region ?_ | refine Sq.ev tab_ok rfl rfl ?_ | refine Sq.nil ?_ | (refine Sq.guard rfl rfl (fun _ => ?_) (fun _ => ?_) <;> refine Sq.ev tab_ok rfl rfl ?_) | (refine Tr.cond rfl (fun _ => ?_) (fun _ => ?_) <;> try (rename_i h; cases h; done)) | refine Tr.block ?_ | refine Tr.skip ?_ | refine Tr.ret ⟨_, rfl, ?_⟩)
    refine Sq.callv rfl (hJ) ?_
    repeat' (first | refine Tr.seq ?_ | refine Tr.region ?_ | refine Sq.ev tab_ok rfl rfl ?_ | refine Sq.nil ?_ | (refine Sq.guard rfl rfl (fun _ => ?_) (fun _ => ?_) <;> refine Sq.ev tab_ok rfl rfl ?_) | (refine Tr.cond rfl (fun _ => ?_) (fun _ => ?_) <;> try (rename_i h; cases h; done)) | refine Tr.block ?_ | refine Tr.skip ?_ | refine Tr.ret ⟨_, rfl, ?_⟩)
    rfl
end Go.Lg.Tryz

set_option linter.unusedVariables false
set_option linter.unusedSimpArgs false
namespace Go.Lg.Tryz
open Go Go.Proofs Go.RowKit Go.Lib Go.Shelf Go.Lg.Sem Go.Lg.Sem.Tx
theorem digits_ok : ∀ u : Nat, u ≤ 1000000 → Fn Tryz.prog Gw 72 [int (u : Nat)] [] (· = str (toBytes (Lib.decDigits u))) := by
  intro u
  induction u using Nat.strongRecOn with
  | _ u ih =>
    intro hu
    by_cases h : u < 10
    · rw [Lib.decDigits_one h]
      have hw : IntKind.u8.wrap (IntKind.i64.wrap (48 + (u : Int))) = ((UInt8.ofNat (48 + u)).toNat : Int) := by
        have : ∀ k : Fin 10, IntKind.u8.wrap (IntKind.i64.wrap (48 + ((k.1 : Nat) : Int))) = ((UInt8.ofNat (48 + k.1)).toNat : Int) := by decide
        exact this ⟨u, h⟩
      refine Fn.of tab_ok Tryz.func72 rfl (by decide) (by simp [Tryz.f72]) rfl (fun κ v h => by cases h) Gw.below ?_
      repeat' (first | refine Tr.seq ?_ | refine Tr.region ?_ | refine Sq.ev tab_ok rfl rfl ?_ | refine Sq.nil ?_ | (refine Sq.guard rfl rfl (fun _ => ?_) (fun _ => ?_) <;> refine Sq.ev tab_ok rfl rfl ?_) | (refine Tr.cond rfl (fun _ => ?_) (fun _ => ?_) <;> try (rename_i h; cases h; done)) | refine Tr.block ?_ | refine Tr.skip ?_ | refine Tr.ret ⟨_, rfl, ?_⟩)
      · refine Sq.strOf [UInt8.ofNat (48 + u)] tab_ok rfl (by show [_] = [_]; exact congrArg (fun z => [Go.Lg.T.sc (.int .u8 z)]) hw) (by simp) ?_
        repeat' (first | refine Tr.seq ?_ | refine Tr.region ?_ | refine Sq.ev tab_ok rfl rfl ?_ | refine Sq.nil ?_ | (refine Sq.guard rfl rfl (fun _ => ?_) (fun _ => ?_) <;> refine Sq.ev tab_ok rfl rfl ?_) | (refine Tr.cond rfl (fun _ => ?_) (fun _ => ?_) <;> try (rename_i h; cases h; done)) | refine Tr.block ?_ | refine Tr.skip ?_ | refine Tr.ret ⟨_, rfl, ?_⟩)
        rfl
      · rename_i h2; exfalso
        have := of_decide_eq_false h2
        omega
    · have h1 := ih (u / 10) (by omega) (by omega)
      have h2 := ih (u % 10) (by omega) (by omega)
      rw [Lib.decDigits, dif_neg h]
      rw [Lib.decDigits_one (by omega)] at h2
      have l1 := dec_len 6 (u / 10) (by omega)
      have et : toBytes (Lib.decDigits (u / 10) ++ [UInt8.ofNat (48 + u % 10)]) = toBytes (Lib.decDigits (u / 10)) ++ toBytes [UInt8.ofNat (48 + u % 10)] := (tb_app _ _).symm
      rw [et]
      rw [← tb_size] at l1
      have l2 : (toBytes [UInt8.ofNat (48 + u % 10)]).size = 1 := by rw [tb_size]; rfl
      generalize toBytes (Lib.decDigits (u / 10)) = A at *
      generalize toBytes [UInt8.ofNat (48 + u % 10)] = B at *
      refine Fn.of tab_ok Tryz.func72 rfl (by decide) (by simp [Tryz.f72]) rfl (fun κ v h => by cases h) Gw.below ?_
      repeat' (first | refine Tr.seq ?_ | refine Tr.region ?_ | refine Sq.ev tab_ok rfl rfl ?_ | refine Sq.nil ?_ | (refine Sq.guard rfl rfl (fun _ => ?_) (fun _ => ?_) <;> refine Sq.ev tab_ok rfl rfl ?_) | (refine Tr.cond rfl (fun _ => ?_) (fun _ => ?_) <;> try (rename_i h; cases h; done)) | refine Tr.block ?_ | refine Tr.skip ?_ | refine Tr.ret ⟨_, rfl, ?_⟩)
      · rename_i h3; exfalso
        have := of_decide_eq_true h3
        omega
      · refine Sq.div (c := ((u / 10 : Nat) : Int)) rfl (by decide) (by rw [if_pos rfl, show ((u : Nat) : Int).tdiv 10 = ((u / 10 : Nat) : Int) by rw [Int.tdiv_eq_ediv_of_nonneg (by omega)]; omega]; exact Go.IntWalk.i64_in _ ⟨by omega, by omega⟩) ?_
        refine Sq.callv rfl (h1) ?_
        refine Sq.ev tab_ok rfl rfl ?_
        refine Sq.div (c := ((u % 10 : Nat) : Int)) rfl (by decide) (by rw [if_neg (by decide), Int.tmod_eq_emod_of_nonneg (by omega)]; omega) ?_
        refine Sq.callv rfl (h2) ?_
        refine Sq.cat rfl (by omega) ?_
        repeat' (first | refine Tr.seq ?_ | refine Tr.region ?_ | refine Sq.ev tab_ok rfl rfl ?_ | refine Sq.nil ?_ | (refine Sq.guard rfl rfl (fun _ => ?_) (fun _ => ?_) <;> refine Sq.ev tab_ok rfl rfl ?_) | (refine Tr.cond rfl (fun _ => ?_) (fun _ => ?_) <;> try (rename_i h; cases h; done)) | refine Tr.block ?_ | refine Tr.skip ?_ | refine Tr.ret ⟨_, rfl, ?_⟩)
        rfl
theorem refVerText_ok (v : Ver) (h : v.right = true) (hv : v.p.size ≤ 1000) : Fn Tryz.prog Gw 52 [.tr (Ver.t v)] [] (· = str (toBytes (textL v.a v.b v.c v.p.data.toList))) := by
  obtain ⟨a, b, c, p⟩ := v
  obtain ⟨ha, hb, hc, hp⟩ : inN a = true ∧ inN b = true ∧ inN c = true ∧ preO p = true := rightB_iff.1 h
  have ia := inN_iff.1 ha
  have ib := inN_iff.1 hb
  have ic := inN_iff.1 hc
  have la := itoa_len ha
  have lb := itoa_len hb
  have lc := itoa_len hc
  have oa := digits_ok a.toNat (by omega)
  have ob := digits_ok b.toNat (by omega)
  have oc := digits_ok c.toNat (by omega)
  rw [← itoa_nat a ia.1, show ((a.toNat : Nat) : Int) = a by omega] at oa
  rw [← itoa_nat b ib.1, show ((b.toNat : Nat) : Int) = b by omega] at ob
  rw [← itoa_nat c ic.1, show ((c.toNat : Nat) : Int) = c by omega] at oc
  have et : toBytes (textL a b c p.data.toList) = if p = ⟨#[]⟩ then toBytes (Lib.itoa a) ++ ⟨#[46]⟩ ++ toBytes (Lib.itoa b) ++ ⟨#[46]⟩ ++ toBytes (Lib.itoa c) else toBytes (Lib.itoa a) ++ ⟨#[46]⟩ ++ toBytes (Lib.itoa b) ++ ⟨#[46]⟩ ++ toBytes (Lib.itoa c) ++ (⟨#[45]⟩ ++ p) := by
    unfold textL numsT
    by_cases hp0 : p = ⟨#[]⟩
    · subst hp0
      rw [if_pos rfl, if_pos rfl]
      show _ = toBytes _ ++ toBytes [46] ++ toBytes _ ++ toBytes [46] ++ toBytes _
      simp only [tb_app, List.append_assoc]; simp
    · have : p.data.toList ≠ [] := fun e => hp0 (bytes_ext e)
      rw [if_neg this, if_neg hp0]
      show _ = toBytes _ ++ toBytes [46] ++ toBytes _ ++ toBytes [46] ++ toBytes _ ++ (toBytes [45] ++ p)
      conv => rhs; rw [← toBytes_data p]
      simp only [tb_app, List.append_assoc]; simp
  rw [← tb_size] at la lb lc
  show Fn _ _ _ _ _ (· = str (toBytes (textL a b c p.data.toList)))
  rw [et]
  generalize toBytes (Lib.itoa a) = A at *
  generalize toBytes (Lib.itoa b) = B at *
  generalize toBytes (Lib.itoa c) = C at *
  have s1 : (⟨#[46]⟩ : ByteArray).size = 1 := rfl
  have s2 : (⟨#[45]⟩ : ByteArray).size = 1 := rfl
  have hv : p.size ≤ 1000 := hv
  refine Fn.of tab_ok Tryz.func52 rfl (by decide) (by simp [Tryz.f52]) rfl (fun κ v h => by cases h) Gw.below ?_
  refine Tr.seq ?_
  refine Tr.region ?_
  repeat' (first | refine Tr.seq ?_ | refine Tr.region ?_ | refine Sq.ev tab_ok rfl rfl ?_ | refine Sq.nil ?_ | (refine Sq.guard rfl rfl (fun _ => ?_) (fun _ => ?_) <;> refine Sq.ev tab_ok rfl rfl ?_) | (refine Tr.cond rfl (fun _ => ?_) (fun _ => ?_) <;> try (rename_i h; cases h; done)) | refine Tr.block ?_ | refine Tr.skip ?_ | refine Tr.ret ⟨_, rfl, ?_⟩)
  refine Tr.drawn ( DSq.ev tab_ok rfl rfl <| DSq.ev tab_ok rfl rfl <| DSq.call rfl (fun _ => rfl) (oa) <| DSq.one rfl (fun q K hK => Sq.cat rfl (by omega) (Sq.nil hK)) <| DSq.ev tab_ok rfl rfl <| DSq.ev tab_ok rfl rfl <| DSq.call rfl (fun _ => rfl) (ob) <| DSq.one rfl (fun q K hK => Sq.cat rfl (by simp only [ByteArray.size_append]; omega) (Sq.nil hK)) <| DSq.one rfl (fun q K hK => Sq.cat rfl (by simp only [ByteArray.size_append]; omega) (Sq.nil hK)) <| DSq.ev tab_ok rfl rfl <| DSq.ev tab_ok rfl rfl <| DSq.call rfl (fun _ => rfl) (oc) <| DSq.one rfl (fun q K hK => Sq.cat rfl (by simp only [ByteArray.size_append]; omega) (Sq.nil hK)) <| DSq.ev tab_ok rfl rfl <| DSq.nil _) mix_ok rfl ?_
  repeat' (first | refine Tr.seq ?_ | refine Tr.region ?_ | refine Sq.ev tab_ok rfl rfl ?_ | refine Sq.nil ?_ | (refine Sq.guard rfl rfl (fun _ => ?_) (fun _ => ?_) <;> refine Sq.ev tab_ok rfl rfl ?_) | (refine Tr.cond rfl (fun _ => ?_) (fun _ => ?_) <;> try (rename_i h; cases h; done)) | refine Tr.block ?_ | refine Tr.skip ?_ | refine Tr.ret ⟨_, rfl, ?_⟩)
  · rename_i h2
    have : p ≠ ⟨#[]⟩ := fun e => by subst e; simp at h2
    rw [if_neg this]
    refine Sq.cat rfl (by omega) ?_
    refine Sq.cat rfl (by simp only [ByteArray.size_append]; omega) ?_
    repeat' (first | refine Tr.seq ?_ | refine Tr.region ?_ | refine Sq.ev tab_ok rfl rfl ?_ | refine Sq.nil ?_ | (refine Sq.guard rfl rfl (fun _ => ?_) (fun _ => ?_) <;> refine Sq.ev tab_ok rfl rfl ?_) | (refine Tr.cond rfl (fun _ => ?_) (fun _ => ?_) <;> try (rename_i h; cases h; done)) | refine Tr.block ?_ | refine Tr.skip ?_ | refine Tr.ret ⟨_, rfl, ?_⟩)
    rfl
  · rename_i h2
    have : p = ⟨#[]⟩ := by rw [ba_toList] at h2; exact bytes_ext (by simpa using h2)
    rw [if_pos this]
theorem refSign_ok (i : Nat) (h : i < 8) : Fn Tryz.prog Gw 51 [int i] [] (· = str (signAt i)) := by
  refine Fn.of tab_ok Tryz.func51 rfl (by decide) (by simp [Tryz.f51]) rfl (fun κ v h => by cases h) Gw.below ?_
  repeat' (first | refine Tr.seq ?_ | refine Tr.region ?_ | refine Sq.ev tab_ok rfl rfl ?_ | refine Sq.nil ?_ | (refine Sq.guard rfl rfl (fun _ => ?_) (fun _ => ?_) <;> refine Sq.ev tab_ok rfl rfl ?_) | (refine Tr.cond rfl (fun _ => ?_) (fun _ => ?_) <;> try (rename_i h; cases h; done)) | refine Tr.block ?_ | refine Tr.skip ?_ | refine Tr.ret ⟨_, rfl, ?_⟩)
  refine Sq.indexA tab_ok rfl (by omega) (by omega) ?_
  refine Sq.loadS (v := str (signAt i)) tab_ok rfl ?_ ?_
  · match i, h with
    | 0, _ | 1, _ | 2, _ | 3, _ | 4, _ | 5, _ | 6, _ | 7, _ => rfl
  repeat' (first | refine Tr.seq ?_ | refine Tr.region ?_ | refine Sq.ev tab_ok rfl rfl ?_ | refine Sq.nil ?_ | (refine Sq.guard rfl rfl (fun _ => ?_) (fun _ => ?_) <;> refine Sq.ev tab_ok rfl rfl ?_) | (refine Tr.cond rfl (fun _ => ?_) (fun _ => ?_) <;> try (rename_i h; cases h; done)) | refine Tr.block ?_ | refine Tr.skip ?_ | refine Tr.ret ⟨_, rfl, ?_⟩)
  rfl
end Go.Lg.Tryz

set_option linter.unusedVariables false
set_option linter.unusedSimpArgs false
namespace Go.Lg.Tryz
open Go Go.Proofs Go.RowKit Go.Lib Go.Shelf Go.Lg.Sem Go.Lg.Sem.Tx
/-- What stands ahead of the next piece. -/
def preJ (sep : List UInt8) : List (List UInt8) → List UInt8
  | [] => []
  | x :: r => Lib.join (x :: r) sep ++ sep
theorem join_snoc (sep y : List UInt8) : ∀ xs, Lib.join (xs ++ [y]) sep = preJ sep xs ++ y
  | [] => by rw [List.nil_append, Lib.join_one]; rfl
  | [x] => by rw [List.singleton_append, join_cons2, Lib.join_one]; simp [preJ, Lib.join_one]
  | x :: z :: r => by
    have ih := join_snoc sep y (z :: r)
    rw [List.cons_append, List.cons_append, join_cons2, ← List.cons_append, ih]
    simp only [preJ]
    rw [join_cons2]
    simp [List.append_assoc]
theorem preJ_ne {sep : List UInt8} {xs : List (List UInt8)} (h : xs ≠ []) : preJ sep xs = Lib.join xs sep ++ sep := by
  cases xs with
  | nil => exact absurd rfl h
  | cons x r => rfl
theorem preJ_len (sep : List UInt8) (xs : List (List UInt8)) : (preJ sep xs).length ≤ (Lib.join xs sep).length + sep.length := by
  cases xs with
  | nil => simp [preJ]
  | cons x r => simp [preJ]
def RT (r : Rng) (i : Nat) : ByteArray := toBytes (Lib.join ((r.take i).map altT) barL)
def RP (r : Rng) (i : Nat) : ByteArray := toBytes (preJ barL ((r.take i).map altT))
def AT (l : List Cmp) (k : Nat) : ByteArray := toBytes (Lib.join ((l.take k).map textC) [32])
def AP (l : List Cmp) (k : Nat) : ByteArray := toBytes (preJ [32] ((l.take k).map textC))
theorem RP_zero (r : Rng) : RP r 0 = RT r 0 := by unfold RP RT; rw [List.take_zero, List.map_nil, Lib.join_nil]; rfl
theorem AP_zero (l : List Cmp) : AP l 0 = AT l 0 := by unfold AP AT; rw [List.take_zero, List.map_nil, Lib.join_nil]; rfl
theorem AT_zero (l : List Cmp) (X : ByteArray) : X ++ AT l 0 = X := by unfold AT; rw [List.take_zero, List.map_nil, Lib.join_nil]; exact ByteArray.append_empty
theorem RP_pos {r : Rng} {i : Nat} (h : 0 < i) (hi : i ≤ r.length) : RP r i = RT r i ++ ⟨#[32, 124, 124, 32]⟩ := by
  have : (r.take i).map altT ≠ [] := by
    rw [Ne, List.map_eq_nil_iff, List.take_eq_nil_iff]
    rintro (h | h)
    · omega
    · subst h; simp at hi; omega
  unfold RP RT
  rw [preJ_ne this, ← tb_app]; rfl
theorem AP_pos {l : List Cmp} {k : Nat} (h : 0 < k) (hk : k ≤ l.length) : AP l k = AT l k ++ ⟨#[32]⟩ := by
  have : (l.take k).map textC ≠ [] := by
    rw [Ne, List.map_eq_nil_iff, List.take_eq_nil_iff]
    rintro (h | h)
    · omega
    · subst h; simp at hk; omega
  unfold AP AT
  rw [preJ_ne this, ← tb_app]; rfl
theorem RT_succ {r : Rng} {i : Nat} (h : i < r.length) : RT r (i + 1) = RP r i ++ AT r[i] r[i].length := by
  unfold RT RP AT
  rw [List.take_succ_eq_append_getElem h, List.map_append, List.map_cons, List.map_nil, join_snoc, ← tb_app, List.take_length]; rfl
theorem AT_succ {l : List Cmp} {k : Nat} (h : k < l.length) : AT l (k + 1) = AP l k ++ toBytes (textC l[k]) := by
  unfold AT AP
  rw [List.take_succ_eq_append_getElem h, List.map_append, List.map_cons, List.map_nil, join_snoc, ← tb_app]
theorem AT_size {l : List Cmp} (hl : l.length ≤ 8) (h : l.all cmpRight = true) (hs : ∀ c, c ∈ l → c.v.p.size ≤ 100) (k : Nat) : (AT l k).size ≤ 992 ∧ (AP l k).size ≤ 993 := by
  have h1 : (l.take k).all cmpRight = true := by
    rw [List.all_eq_true] at h ⊢
    exact fun c hc => h c (List.mem_of_mem_take hc)
  have h2 := altT_len (l := l.take k) (by rw [List.length_take]; omega) h1 (fun c hc => hs c (List.mem_of_mem_take hc))
  have h3 := preJ_len [32] ((l.take k).map textC)
  unfold AT AP
  rw [tb_size, tb_size]
  have h2 : (Lib.join ((l.take k).map textC) [32]).length ≤ 992 := h2
  refine ⟨h2, ?_⟩
  simp only [List.length_cons, List.length_nil] at h3
  omega
theorem RT_size {r : Rng} (h : rngRight r = true) (hs : ∀ l, l ∈ r → ∀ c, c ∈ l → c.v.p.size ≤ 100) (i : Nat) : (RT r i).size ≤ 8000 ∧ (RP r i).size ≤ 8004 := by
  have h1 := join_len barL 992 ((r.take i).map altT) (fun y hy => by
    obtain ⟨l, hl, rfl⟩ := List.mem_map.1 hy
    have hl := List.mem_of_mem_take hl
    obtain ⟨h1, h2⟩ := rngRight_in h hl
    unfold sizedB at h1
    simp only [Bool.and_eq_true, decide_eq_true_eq] at h1
    exact altT_len (by omega) h2 (hs l hl))
  have h8 := (rngRight_len h).2
  have h3 := preJ_len barL ((r.take i).map altT)
  have e : barL.length = 4 := rfl
  rw [e] at h1 h3
  have h4 : ((r.take i).map altT).length ≤ 8 := by rw [List.length_map, List.length_take]; omega
  have h5 : ((r.take i).map altT).length * (992 + 4) ≤ 8 * (992 + 4) := Nat.mul_le_mul_right _ h4
  unfold RT RP
  rw [tb_size, tb_size]
  omega
theorem refRngText_ok (r : Rng) (h : rngRight r = true) (hs : ∀ l, l ∈ r → ∀ c, c ∈ l → c.v.p.size ≤ 100) :
    Fn Tryz.prog Gw 27 [.tr (rngT r)] [] (· = str (toBytes (rngTx r))) := by
  have h8 := (rngRight_len h).2
  have hend : toBytes (rngTx r) = RT r r.length := by unfold RT; rw [List.take_length]; rfl
  rw [hend]
  refine Fn.of tab_ok Tryz.func27 rfl (by decide) (by simp [Tryz.f27]) rfl (fun κ v h => by cases h) Gw.below ?_
  refine Tr.seq ?_
  refine Tr.region ?_
  refine Sq.ev tab_ok rfl rfl ?_
  refine Sq.ev tab_ok rfl rfl ?_
  refine Sq.nil ?_
  refine Tr.seq ?_
  refine Tr.region ?_
  refine Sq.ev tab_ok rfl rfl ?_
  refine Sq.nil ?_
  refine Tr.cut [(.s 1, .ptr (.l 1) 0), (.l 1, .blk 31 [.tr (.ls (r.map cmpsT))]), (.s 3, str (RT r r.length))] ?_ ?_
  case refine_2 =>
    repeat' (first | refine Tr.seq ?_ | refine Tr.region ?_ | refine Sq.ev tab_ok rfl rfl ?_ | refine Sq.nil ?_ | (refine Sq.guard rfl rfl (fun _ => ?_) (fun _ => ?_) <;> refine Sq.ev tab_ok rfl rfl ?_) | (refine Tr.cond rfl (fun _ => ?_) (fun _ => ?_) <;> try (rename_i h; cases h; done)) | refine Tr.block ?_ | refine Tr.skip ?_ | refine Tr.ret ⟨_, rfl, ?_⟩)
    rfl
  repeat' (first | refine Tr.seq ?_ | refine Tr.region ?_ | refine Sq.ev tab_ok rfl rfl ?_ | refine Sq.nil ?_ | (refine Sq.guard rfl rfl (fun _ => ?_) (fun _ => ?_) <;> refine Sq.ev tab_ok rfl rfl ?_) | (refine Tr.cond rfl (fun _ => ?_) (fun _ => ?_) <;> try (rename_i h; cases h; done)) | refine Tr.block ?_ | refine Tr.skip ?_ | refine Tr.ret ⟨_, rfl, ?_⟩)
  refine Tr.loopS (fun i : Nat => [(.s 1, .ptr (.l 1) 0), (.l 1, .blk 31 [.tr (.ls (r.map cmpsT))]), (.s 3, str (RT r i)), (.s 4, int i)]) (fun i => r.length - i) (fun i => i ≤ r.length)
    0 (by omega) (Sub.app (l := [_, _, _, _]) (H := []) ⟨rfl, rfl, by exact congrArg some (congrArg str (by unfold RT; rw [List.take_zero, List.map_nil, Lib.join_nil]; rfl)), rfl, trivial⟩ (fun κ v h => nomatch h)) ?_
  rintro i hi
  have hRs := RT_size h hs i
  refine Tr.seq ?_
  refine Tr.seq ?_
  refine Tr.region ?_
  refine Sq.ev tab_ok rfl rfl ?_
  refine Sq.ev tab_ok rfl rfl ?_
  refine Sq.ev tab_ok rfl rfl ?_
  refine Sq.ev tab_ok rfl rfl ?_
  refine Sq.ev tab_ok rfl rfl ?_
  refine Sq.nil ?_
  refine Tr.cond rfl (fun h2 => ?_) (fun h2 => ?_)
  · have hlt : i < r.length := by simp only [List.length_map, decide_eq_true_eq] at h2; omega
    obtain ⟨l, hl⟩ : ∃ l, r[i] = l := ⟨_, rfl⟩
    have hlm : l ∈ r := hl ▸ List.getElem_mem hlt
    have he : (r.map cmpsT)[i]? = some (cmpsT l) := by rw [List.getElem?_map, List.getElem?_eq_getElem hlt, hl]; rfl
    obtain ⟨hl8, hall⟩ := rngRight_in h hlm
    have hl8 : l.length ≤ 8 := by
      unfold sizedB at hl8
      simp only [Bool.and_eq_true, decide_eq_true_eq] at hl8
      omega
    have hst := RT_succ hlt
    rw [hl] at hst
    have hAs := AT_size hl8 hall (hs l hlm)
    refine Tr.skip ?_
    refine Tr.seq ?_
    refine Tr.block ?_
    refine Tr.cut [(.s 1, .ptr (.l 1) 0), (.l 1, .blk 31 [.tr (.ls (r.map cmpsT))]), (.s 3, str (RP r i)), (.s 4, int i)] ?_ ?_
    · repeat' (first | refine Tr.seq ?_ | refine Tr.region ?_ | refine Sq.ev tab_ok rfl rfl ?_ | refine Sq.nil ?_ | (refine Sq.guard rfl rfl (fun _ => ?_) (fun _ => ?_) <;> refine Sq.ev tab_ok rfl rfl ?_) | (refine Tr.cond rfl (fun _ => ?_) (fun _ => ?_) <;> try (rename_i h; cases h; done)) | refine Tr.block ?_ | refine Tr.skip ?_ | refine Tr.ret ⟨_, rfl, ?_⟩)
      · rename_i h3
        have h3 : 0 < i := by have := of_decide_eq_true h3; omega
        refine Sq.cat rfl (by show _ + 4 ≤ _; omega) ?_
        repeat' (first | refine Tr.seq ?_ | refine Tr.region ?_ | refine Sq.ev tab_ok rfl rfl ?_ | refine Sq.nil ?_ | (refine Sq.guard rfl rfl (fun _ => ?_) (fun _ => ?_) <;> refine Sq.ev tab_ok rfl rfl ?_) | (refine Tr.cond rfl (fun _ => ?_) (fun _ => ?_) <;> try (rename_i h; cases h; done)) | refine Tr.block ?_ | refine Tr.skip ?_ | refine Tr.ret ⟨_, rfl, ?_⟩)
        exact SubL.sub (m' := [_, _, _, _]) ⟨rfl, rfl, by exact congrArg some (congrArg str (RP_pos h3 hi).symm), rfl, trivial⟩
      · rename_i h3
        have h3 : i = 0 := by have := of_decide_eq_false h3; omega
        subst h3
        exact SubL.sub (m' := [_, _, _, _]) ⟨rfl, rfl, by exact congrArg some (congrArg str (RP_zero r).symm), rfl, trivial⟩
    repeat' (first | refine Tr.seq ?_ | refine Tr.region ?_ | refine Sq.ev tab_ok rfl rfl ?_ | refine Sq.nil ?_ | (refine Sq.guard rfl rfl (fun _ => ?_) (fun _ => ?_) <;> refine Sq.ev tab_ok rfl rfl ?_) | (refine Tr.cond rfl (fun _ => ?_) (fun _ => ?_) <;> try (rename_i h; cases h; done)) | refine Tr.block ?_ | refine Tr.skip ?_ | refine Tr.ret ⟨_, rfl, ?_⟩)
    refine Tr.loopS (fun k : Nat => [(.s 1, .ptr (.l 1) 0), (.l 1, .blk 31 [.tr (.ls (r.map cmpsT))]), (.s 3, str (RP r i ++ AT l k)), (.s 4, int i), (.s 5, int k)]) (fun k => l.length - k) (fun k => k ≤ l.length)
      0 (by omega) (Sub.app (l := [_, _, _, _, _]) (H := []) ⟨rfl, rfl, by exact congrArg some (congrArg str (AT_zero l _).symm), rfl, rfl, trivial⟩ (fun κ v h => nomatch h)) ?_
    rintro k hk
    have hAk := hAs k
    refine Tr.seq ?_
    refine Tr.seq ?_
    refine Tr.region ?_
    refine Sq.ev tab_ok rfl rfl ?_
    refine Sq.ev tab_ok rfl rfl ?_
    refine Sq.ev tab_ok rfl rfl ?_
    refine Sq.ev tab_ok rfl rfl ?_
    refine Sq.index (x := cmpsT l) tab_ok rfl (by omega) (by simpa using he) rfl ?_
    refine Sq.ev tab_ok rfl rfl ?_
    refine Sq.ev tab_ok rfl rfl ?_
    refine Sq.ev tab_ok rfl rfl ?_
    refine Sq.nil ?_
    refine Tr.cond rfl (fun h3 => ?_) (fun h3 => ?_)
    · have hlt2 : k < l.length := by have h3 : decide ((k : Int) < ((l.map Cmp.t).length : Int)) = true := h3
                                     simp only [List.length_map, decide_eq_true_eq] at h3; omega
      obtain ⟨c, hc⟩ : ∃ c, l[k] = c := ⟨_, rfl⟩
      have hcm : c ∈ l := hc ▸ List.getElem_mem hlt2
      have hce : (l.map Cmp.t)[k]? = some (Cmp.t c) := by rw [List.getElem?_map, List.getElem?_eq_getElem hlt2, hc]; rfl
      have hcr := List.all_eq_true.1 hall c hcm
      have hcs := hs l hlm c hcm
      have hst2 := AT_succ hlt2
      rw [hc] at hst2
      refine Tr.skip ?_
      refine Tr.seq ?_
      refine Tr.block ?_
      refine Tr.cut [(.s 1, .ptr (.l 1) 0), (.l 1, .blk 31 [.tr (.ls (r.map cmpsT))]), (.s 3, str (RP r i ++ AP l k)), (.s 4, int i), (.s 5, int k)] ?_ ?_
      · repeat' (first | refine Tr.seq ?_ | refine Tr.region ?_ | refine Sq.ev tab_ok rfl rfl ?_ | refine Sq.nil ?_ | (refine Sq.guard rfl rfl (fun _ => ?_) (fun _ => ?_) <;> refine Sq.ev tab_ok rfl rfl ?_) | (refine Tr.cond rfl (fun _ => ?_) (fun _ => ?_) <;> try (rename_i h; cases h; done)) | refine Tr.block ?_ | refine Tr.skip ?_ | refine Tr.ret ⟨_, rfl, ?_⟩)
        · rename_i h4
          have h4 : 0 < k := by have := of_decide_eq_true h4; omega
          refine Sq.cat rfl (by rw [ByteArray.size_append]; show _ + 1 ≤ _; omega) ?_
          repeat' (first | refine Tr.seq ?_ | refine Tr.region ?_ | refine Sq.ev tab_ok rfl rfl ?_ | refine Sq.nil ?_ | (refine Sq.guard rfl rfl (fun _ => ?_) (fun _ => ?_) <;> refine Sq.ev tab_ok rfl rfl ?_) | (refine Tr.cond rfl (fun _ => ?_) (fun _ => ?_) <;> try (rename_i h; cases h; done)) | refine Tr.block ?_ | refine Tr.skip ?_ | refine Tr.ret ⟨_, rfl, ?_⟩)
          exact SubL.sub (m' := [_, _, _, _, _]) ⟨rfl, rfl, by exact congrArg some (congrArg str (by rw [AP_pos h4 hk, ByteArray.append_assoc])), rfl, rfl, trivial⟩
        · rename_i h4
          have h4 : k = 0 := by have := of_decide_eq_false h4; omega
          subst h4
          exact SubL.sub (m' := [_, _, _, _, _]) ⟨rfl, rfl, by exact congrArg some (congrArg str (by rw [AP_zero l])), rfl, rfl, trivial⟩
      refine Tr.seq ?_
      refine Tr.region ?_
      refine Sq.ev tab_ok rfl rfl ?_
      refine Sq.ev tab_ok rfl rfl ?_
      refine Sq.ev tab_ok rfl rfl ?_
      refine Sq.index (x := cmpsT l) tab_ok rfl (by omega) (by simpa using he) rfl ?_
      refine Sq.ev tab_ok rfl rfl ?_
      refine Sq.ev tab_ok rfl rfl ?_
      refine Sq.index (x := Cmp.t c) tab_ok rfl (by omega) (by simpa using hce) rfl ?_
      by_cases h0 : c.op = 0
      · have hsg := refSign_ok 0 (by decide)
        have et : toBytes (textC c) = signAt 0 := by unfold textC; rw [if_pos h0]; rfl
        rw [et] at hst2
        obtain ⟨op, v⟩ := c
        have h0 : op = 0 := h0
        subst h0
        have hz := sign_size (i := 0) (by decide)
        repeat' (first | refine Tr.seq ?_ | refine Tr.region ?_ | refine Sq.ev tab_ok rfl rfl ?_ | refine Sq.nil ?_ | (refine Sq.guard rfl rfl (fun _ => ?_) (fun _ => ?_) <;> refine Sq.ev tab_ok rfl rfl ?_) | (refine Tr.cond rfl (fun _ => ?_) (fun _ => ?_) <;> try (rename_i h; cases h; done)) | refine Tr.block ?_ | refine Tr.skip ?_ | refine Tr.ret ⟨_, rfl, ?_⟩)
        refine Sq.callv rfl (hsg) ?_
        refine Sq.cat rfl (by rw [ByteArray.size_append]; omega) ?_
        repeat' (first | refine Tr.seq ?_ | refine Tr.region ?_ | refine Sq.ev tab_ok rfl rfl ?_ | refine Sq.nil ?_ | (refine Sq.guard rfl rfl (fun _ => ?_) (fun _ => ?_) <;> refine Sq.ev tab_ok rfl rfl ?_) | (refine Tr.cond rfl (fun _ => ?_) (fun _ => ?_) <;> try (rename_i h; cases h; done)) | refine Tr.block ?_ | refine Tr.skip ?_ | refine Tr.ret ⟨_, rfl, ?_⟩)
        exact ⟨k + 1, by omega, by omega, Sub.app (l := [_, _, _, _, _]) (H := []) ⟨rfl, rfl, by exact congrArg some (congrArg str (by rw [hst2, ByteArray.append_assoc])), rfl, congrArg some (wrapz (by omega) (by omega) (by omega)), trivial⟩ (fun κ v h => nomatch h)⟩
      · obtain ⟨c1, c7, cv⟩ := cr_parts hcr h0
        have hsg := refSign_ok c.op.toNat (by omega)
        rw [show ((c.op.toNat : Nat) : Int) = c.op by omega] at hsg
        have hvt := refVerText_ok c.v cv (by omega)
        have hz := sign_size (i := c.op.toNat) (by omega)
        have hz2 : (toBytes (textL c.v.a c.v.b c.v.c c.v.p.data.toList)).size ≤ 1100 := by rw [tb_size]; have := textL_len cv; omega
        rw [textC_sign h0] at hst2
        generalize toBytes (textL c.v.a c.v.b c.v.c c.v.p.data.toList) = X at *
        repeat' (first | refine Tr.seq ?_ | refine Tr.region ?_ | refine Sq.ev tab_ok rfl rfl ?_ | refine Sq.nil ?_ | (refine Sq.guard rfl rfl (fun _ => ?_) (fun _ => ?_) <;> refine Sq.ev tab_ok rfl rfl ?_) | (refine Tr.cond rfl (fun _ => ?_) (fun _ => ?_) <;> try (rename_i h; cases h; done)) | refine Tr.block ?_ | refine Tr.skip ?_ | refine Tr.ret ⟨_, rfl, ?_⟩)
        refine Sq.callv rfl (hsg) ?_
        refine Sq.cat rfl (by rw [ByteArray.size_append]; omega) ?_
        repeat' (first | refine Tr.seq ?_ | refine Tr.region ?_ | refine Sq.ev tab_ok rfl rfl ?_ | refine Sq.nil ?_ | (refine Sq.guard rfl rfl (fun _ => ?_) (fun _ => ?_) <;> refine Sq.ev tab_ok rfl rfl ?_) | (refine Tr.cond rfl (fun _ => ?_) (fun _ => ?_) <;> try (rename_i h; cases h; done)) | refine Tr.block ?_ | refine Tr.skip ?_ | refine Tr.ret ⟨_, rfl, ?_⟩)
        · refine Sq.callv rfl (hvt) ?_
          refine Sq.cat rfl (by rw [ByteArray.size_append, ByteArray.size_append]; omega) ?_
          repeat' (first | refine Tr.seq ?_ | refine Tr.region ?_ | refine Sq.ev tab_ok rfl rfl ?_ | refine Sq.nil ?_ | (refine Sq.guard rfl rfl (fun _ => ?_) (fun _ => ?_) <;> refine Sq.ev tab_ok rfl rfl ?_) | (refine Tr.cond rfl (fun _ => ?_) (fun _ => ?_) <;> try (rename_i h; cases h; done)) | refine Tr.block ?_ | refine Tr.skip ?_ | refine Tr.ret ⟨_, rfl, ?_⟩)
          exact ⟨k + 1, by omega, by omega, Sub.app (l := [_, _, _, _, _]) (H := []) ⟨rfl, rfl, by exact congrArg some (congrArg str (by rw [hst2]; simp only [ByteArray.append_assoc])), rfl, congrArg some (wrapz (by omega) (by omega) (by omega)), trivial⟩ (fun κ v h => nomatch h)⟩
        · rename_i h5
          exfalso
          have h5 := of_decide_eq_false h5
          omega
    · have hge : l.length ≤ k := by have h3 : decide ((k : Int) < ((l.map Cmp.t).length : Int)) = false := h3
                                    simp only [List.length_map, decide_eq_false_iff_not] at h3; omega
      have : k = l.length := by omega
      subst this
      refine Tr.exit ?_
      repeat' (first | refine Tr.seq ?_ | refine Tr.region ?_ | refine Sq.ev tab_ok rfl rfl ?_ | refine Sq.nil ?_ | (refine Sq.guard rfl rfl (fun _ => ?_) (fun _ => ?_) <;> refine Sq.ev tab_ok rfl rfl ?_) | (refine Tr.cond rfl (fun _ => ?_) (fun _ => ?_) <;> try (rename_i h; cases h; done)) | refine Tr.block ?_ | refine Tr.skip ?_ | refine Tr.ret ⟨_, rfl, ?_⟩)
      exact ⟨i + 1, by omega, by omega, Sub.app (l := [_, _, _, _]) (H := []) ⟨rfl, rfl, by exact congrArg some (congrArg str (by rw [hst])), congrArg some (wrapz (by omega) (by omega) (by omega)), trivial⟩ (fun κ v h => nomatch h)⟩
  · have hge : r.length ≤ i := by have h2 : decide ((i : Int) < ((r.map cmpsT).length : Int)) = false := h2
                                  simp only [List.length_map, decide_eq_false_iff_not] at h2; omega
    have : i = r.length := by omega
    subst this
    refine Tr.exit ?_
    repeat' (first | refine Tr.seq ?_ | refine Tr.region ?_ | refine Sq.ev tab_ok rfl rfl ?_ | refine Sq.nil ?_ | (refine Sq.guard rfl rfl (fun _ => ?_) (fun _ => ?_) <;> refine Sq.ev tab_ok rfl rfl ?_) | (refine Tr.cond rfl (fun _ => ?_) (fun _ => ?_) <;> try (rename_i h; cases h; done)) | refine Tr.block ?_ | refine Tr.skip ?_ | refine Tr.ret ⟨_, rfl, ?_⟩)
    exact SubL.sub (m' := [_, _, _]) ⟨rfl, rfl, rfl, trivial⟩
end Go.Lg.Tryz

set_option linter.unusedVariables false
set_option linter.unusedSimpArgs false
namespace Go.Lg.Tryz
open Go Go.Proofs Go.RowKit Go.Lib Go.Lg.Sem Go.Lg.Sem.Tx
theorem plain_pre {r : Rng} (h : plainR 20 r = true) : ∀ l, l ∈ r → ∀ c, c ∈ l → c.v.p.size ≤ 100 := by
  unfold plainR at h
  rw [Bool.and_eq_true, List.all_eq_true] at h
  intro l hl c hc
  have := h.2 l hl
  unfold plainL at this
  rw [Bool.and_eq_true, List.all_eq_true] at this
  exact of_decide_eq_true (this.2 c hc)
set_option maxRecDepth 8192 in
theorem RangesBack_ok (r : Rng) : Fn Tryz.prog Gw 10 [.tr (rngT r)] [] (· = bool true) := by
  refine Fn.of tab_ok Tryz.func10 rfl (by decide) (by simp [Tryz.f10]) rfl (fun κ v h => by cases h) Gw.below ?_
  repeat' (first | refine Tr.seq ?_ | refine Tr.region ?_ | refine Sq.ev tab_ok rfl rfl ?_ | refine Sq.nil ?_ | (refine Sq.guard rfl rfl (fun _ => ?_) (fun _ => ?_) <;> refine Sq.ev tab_ok rfl rfl ?_) | (refine Tr.cond rfl (fun _ => ?_) (fun _ => ?_) <;> try (rename_i h; cases h; done)) | refine Tr.block ?_ | refine Tr.skip ?_ | refine Tr.ret ⟨_, rfl, ?_⟩)
  refine Sq.callv rfl (anchor_ok) ?_
  repeat' (first | refine Tr.seq ?_ | refine Tr.region ?_ | refine Sq.ev tab_ok rfl rfl ?_ | refine Sq.nil ?_ | (refine Sq.guard rfl rfl (fun _ => ?_) (fun _ => ?_) <;> refine Sq.ev tab_ok rfl rfl ?_) | (refine Tr.cond rfl (fun _ => ?_) (fun _ => ?_) <;> try (rename_i h; cases h; done)) | refine Tr.block ?_ | refine Tr.skip ?_ | refine Tr.ret ⟨_, rfl, ?_⟩)
  refine Sq.call rfl (plain_ok r) ?_
  rintro _ ⟨q0, rfl, hq⟩
  repeat' (first | refine Tr.seq ?_ | refine Tr.region ?_ | refine Sq.ev tab_ok rfl rfl ?_ | refine Sq.nil ?_ | (refine Sq.guard rfl rfl (fun _ => ?_) (fun _ => ?_) <;> refine Sq.ev tab_ok rfl rfl ?_) | (refine Tr.cond rfl (fun _ => ?_) (fun _ => ?_) <;> try (rename_i h; cases h; done)) | refine Tr.block ?_ | refine Tr.skip ?_ | refine Tr.ret ⟨_, rfl, ?_⟩)
  · rfl
  rename_i hpl
  have hpl : plainR 20 r = true := by simpa using hpl
  have e := (hq hpl).symm
  subst e
  clear hq
  obtain ⟨hok, hlen, hll⟩ := plain_ok_of hpl (by omega)
  have hs := plain_pre hpl
  have hT := rngText_ok r hok (by omega) hs
  have hR := rngRight_ok r hok (by omega)
  have hR2 := refRngRight_ok r hok (by omega)
  cases hr : rngRight r
  · rw [hr] at hT hR hR2
    simp only [Bool.false_eq_true, if_false] at hT
    refine Sq.callv rfl (hT) ?_
    repeat' (first | refine Tr.seq ?_ | refine Tr.region ?_ | refine Sq.ev tab_ok rfl rfl ?_ | refine Sq.nil ?_ | (refine Sq.guard rfl rfl (fun _ => ?_) (fun _ => ?_) <;> refine Sq.ev tab_ok rfl rfl ?_) | (refine Tr.cond rfl (fun _ => ?_) (fun _ => ?_) <;> try (rename_i h; cases h; done)) | refine Tr.block ?_ | refine Tr.skip ?_ | refine Tr.ret ⟨_, rfl, ?_⟩)
    refine Tr.drawn ( DSq.ev tab_ok rfl rfl <| DSq.call rfl (fun _ => rfl) (hR) <| DSq.ev tab_ok rfl rfl <| DSq.call rfl (fun _ => rfl) (hR2) <| DSq.ev tab_ok rfl rfl <| DSq.nil _) mix_ok rfl ?_
    repeat' (first | refine Tr.seq ?_ | refine Tr.region ?_ | refine Sq.ev tab_ok rfl rfl ?_ | refine Sq.nil ?_ | (refine Sq.guard rfl rfl (fun _ => ?_) (fun _ => ?_) <;> refine Sq.ev tab_ok rfl rfl ?_) | (refine Tr.cond rfl (fun _ => ?_) (fun _ => ?_) <;> try (rename_i h; cases h; done)) | refine Tr.block ?_ | refine Tr.skip ?_ | refine Tr.ret ⟨_, rfl, ?_⟩)
    refine Sq.callv rfl (hR2) ?_
    repeat' (first | refine Tr.seq ?_ | refine Tr.region ?_ | refine Sq.ev tab_ok rfl rfl ?_ | refine Sq.nil ?_ | (refine Sq.guard rfl rfl (fun _ => ?_) (fun _ => ?_) <;> refine Sq.ev tab_ok rfl rfl ?_) | (refine Tr.cond rfl (fun _ => ?_) (fun _ => ?_) <;> try (rename_i h; cases h; done)) | refine Tr.block ?_ | refine Tr.skip ?_ | refine Tr.ret ⟨_, rfl, ?_⟩)
    simp
  · have hP := rParse_ok (toBytes (rngTx r)) (by rw [tb_size]; have := rngTx_len hr hs; omega)
    rw [rangeV_text hr (fun l hl c hc => by have := hs l hl c hc; omega)] at hP
    have hX := refRngText_ok r hr hs
    have hal := alike_ok r r (by omega) (fun l hl => by have := hll l hl; omega)
    rw [rngEq_refl] at hal
    rw [hr] at hT hR hR2
    simp only [if_true] at hT
    generalize toBytes (rngTx r) = X at *
    refine Sq.callv rfl (hT) ?_
    repeat' (first | refine Tr.seq ?_ | refine Tr.region ?_ | refine Sq.ev tab_ok rfl rfl ?_ | refine Sq.nil ?_ | (refine Sq.guard rfl rfl (fun _ => ?_) (fun _ => ?_) <;> refine Sq.ev tab_ok rfl rfl ?_) | (refine Tr.cond rfl (fun _ => ?_) (fun _ => ?_) <;> try (rename_i h; cases h; done)) | refine Tr.block ?_ | refine Tr.skip ?_ | refine Tr.ret ⟨_, rfl, ?_⟩)
    refine Tr.drawn ( DSq.ev tab_ok rfl rfl <| DSq.call rfl (fun _ => rfl) (hR) <| DSq.ev tab_ok rfl rfl <| DSq.call rfl (fun _ => rfl) (hR2) <| DSq.ev tab_ok rfl rfl <| DSq.nil _) mix_ok rfl ?_
    repeat' (first | refine Tr.seq ?_ | refine Tr.region ?_ | refine Sq.ev tab_ok rfl rfl ?_ | refine Sq.nil ?_ | (refine Sq.guard rfl rfl (fun _ => ?_) (fun _ => ?_) <;> refine Sq.ev tab_ok rfl rfl ?_) | (refine Tr.cond rfl (fun _ => ?_) (fun _ => ?_) <;> try (rename_i h; cases h; done)) | refine Tr.block ?_ | refine Tr.skip ?_ | refine Tr.ret ⟨_, rfl, ?_⟩)
    refine Sq.callv rfl (hR2) ?_
    repeat' (first | refine Tr.seq ?_ | refine Tr.region ?_ | refine Sq.ev tab_ok rfl rfl ?_ | refine Sq.nil ?_ | (refine Sq.guard rfl rfl (fun _ => ?_) (fun _ => ?_) <;> refine Sq.ev tab_ok rfl rfl ?_) | (refine Tr.cond rfl (fun _ => ?_) (fun _ => ?_) <;> try (rename_i h; cases h; done)) | refine Tr.block ?_ | refine Tr.skip ?_ | refine Tr.ret ⟨_, rfl, ?_⟩)
    refine Sq.callv rfl (hP) ?_
    repeat' (first | refine Tr.seq ?_ | refine Tr.region ?_ | refine Sq.ev tab_ok rfl rfl ?_ | refine Sq.nil ?_ | (refine Sq.guard rfl rfl (fun _ => ?_) (fun _ => ?_) <;> refine Sq.ev tab_ok rfl rfl ?_) | (refine Tr.cond rfl (fun _ => ?_) (fun _ => ?_) <;> try (rename_i h; cases h; done)) | refine Tr.block ?_ | refine Tr.skip ?_ | refine Tr.ret ⟨_, rfl, ?_⟩)
    refine Sq.call rfl (plain_ok r) ?_
    rintro _ ⟨q2, rfl, hq2⟩
    have e3 := (hq2 hpl).symm
    subst e3
    rw [hpl]
    repeat' (first | refine Tr.seq ?_ | refine Tr.region ?_ | refine Sq.ev tab_ok rfl rfl ?_ | refine Sq.nil ?_ | (refine Sq.guard rfl rfl (fun _ => ?_) (fun _ => ?_) <;> refine Sq.ev tab_ok rfl rfl ?_) | (refine Tr.cond rfl (fun _ => ?_) (fun _ => ?_) <;> try (rename_i h; cases h; done)) | refine Tr.block ?_ | refine Tr.skip ?_ | refine Tr.ret ⟨_, rfl, ?_⟩)
    refine Sq.callv rfl (hX) ?_
    repeat' (first | refine Tr.seq ?_ | refine Tr.region ?_ | refine Sq.ev tab_ok rfl rfl ?_ | refine Sq.nil ?_ | (refine Sq.guard rfl rfl (fun _ => ?_) (fun _ => ?_) <;> refine Sq.ev tab_ok rfl rfl ?_) | (refine Tr.cond rfl (fun _ => ?_) (fun _ => ?_) <;> try (rename_i h; cases h; done)) | refine Tr.block ?_ | refine Tr.skip ?_ | refine Tr.ret ⟨_, rfl, ?_⟩)
    · refine Sq.callv rfl (hal) ?_
      repeat' (first | refine Tr.seq ?_ | refine Tr.region ?_ | refine Sq.ev tab_ok rfl rfl ?_ | refine Sq.nil ?_ | (refine Sq.guard rfl rfl (fun _ => ?_) (fun _ => ?_) <;> refine Sq.ev tab_ok rfl rfl ?_) | (refine Tr.cond rfl (fun _ => ?_) (fun _ => ?_) <;> try (rename_i h; cases h; done)) | refine Tr.block ?_ | refine Tr.skip ?_ | refine Tr.ret ⟨_, rfl, ?_⟩)
      simp
    · rename_i h9
      exfalso
      simp at h9
end Go.Lg.Tryz

set_option linter.unusedSimpArgs false
set_option linter.unusedVariables false
namespace Go.Lg.Tryz
open Go Go.Proofs Go.Proofs.YtckeeefeiljamaaGreatDoor Go.ChangeShapes Go.WideShapes Go.ChangeAt Go.RowKit Go.Joins Go.Lg.Sem

def theLaid : List (String × DataW Unit) := Rows.rangesParsesRow.laid
theorem own : ownKnob Tryz.prog.godebug = none := by kernel_rfl
theorem laidOut : laidOutB Tryz.prog = true := by kernel_rfl

/-- Go's own table as cells. -/
def firstCells : Array Value := match Go.Pinned.utf8First with
  | .agg l => (l.map fun | .lit (.int k n) => Value.int k n | _ => undef).toArray
  | _ => #[]
/-- A world that meets the condition: the heap that the door's run leaves, and the one pinned table. -/
noncomputable def laidWorld (os : Os) : World :=
  let w0 := World.doorLaid Tryz.prog 72 os
  { w0 with heap := w0.heap.modify 0 fun
      | .cells _ t frozen => .cells firstCells t frozen
      | o => o }
set_option maxRecDepth 100000 in
theorem laidWorld_met (os : Os) (args : Array Value) : laidMetH Tryz.prog theLaid ((laidWorld os).forCall (fun _ _ => 0) ⟨#[], args, []⟩).memory :=
  laidMetH_of_parts3 (fuel := 8) (laidMet_of_run' 8 (by kernel_rfl) (by kernel_rfl)) (by kernel_rfl) (by kernel_rfl)
theorem laidWorld_os (os : Os) : (laidWorld os).os = os := rfl

set_option maxRecDepth 100000 in
theorem laidWorld_shaped (os : Os) (args : Array Value) : ((laidWorld os).forCall (fun _ _ => 0) ⟨#[], args, []⟩).Shaped Tryz.prog :=
  World.shaped_of_RefB (by kernel_rfl) (by kernel_rfl)

/-- What the condition and the world's shape give. -/
theorem gw_of {W : World} (hs : W.ShapedOpen Tryz.prog) (h : laidMetH Tryz.prog theLaid W) : Gw W := by
  rw [MakeChecks.laidMetH_plain _ _ _ (by kernel_rfl)] at h
  have h2 : laidMet Tryz.prog (("internal/strconv.uint64pow10", Lib.tabData .u64 Lib.pow10Tab) :: theLaid.drop 3) W := h.tail.tail
  have ht := Lib.tabIs_of_head tab_at (t := 177) (e := 158) (n := 20) (by kernel_rfl) Tryz.underlying177 Tryz.underlying158 (by kernel_rfl) (by kernel_rfl) h2
  obtain ⟨m, hm⟩ := cell_of_shapedOpen_int (g := 2) (zero := #[.int .i64 0]) (t := 3) hs (of_decide_eq_true (by kernel_rfl)) (by kernel_rfl) rfl (by kernel_rfl) (by kernel_rfl) Tryz.underlying3
  refine ⟨⟨m, hm⟩, ht, ?_⟩
  have := ht
  unfold Lib.TabIs World.var? at this
  rw [tab_at, Option.bind_some] at this
  cases hb : W.heap[5]? with
  | none => rw [hb] at this; cases this
  | some o => have := (Array.getElem?_eq_some_iff.1 hb).1; omega

/-- The kit's two ways in one: the condition's extra part and the world's shape, both handed to the contract. -/
theorem returns_both {H : Type} {enc : TypeId × Value → H} {a : Assume} {C : Checked} {os : Os} {f : FuncId} {fn : Func} {s : ChangeSpec} {conds : List PathCond} {apart fresh handsOn again : Bool} {X : World → Array Value → Prop}
    (hX : ∀ (w w' : World) (args : Array Value), w.heap = w'.heap → X w args → X w' args)
    (own : ownKnob C.prog.godebug = none) (started : os.Started) (noInit : C.prog.inits.idxOf? f = none) (hfn : C.prog.funcs[f]? = some fn)
    (witness : ∃ (w : World) (tape : Tape) (i : Input), w.os = os ∧ (w.forCall tape i).Shaped C.prog ∧ i.vars = [] ∧ Input.okWide C.prog (w.forCall tape i) .any w.heap.size f i ∧
      ((s.pre enc C.prog fn conds apart (w.forCall tape i).memory i.args ∧ X (w.forCall tape i).memory i.args) ∧ sizedMet enc C.prog fn (OpenSpec.ofChange s) apart (w.forCall tape i).memory i.args) ∧ a.holds C.prog (lone (Frame.enter C.prog f i.args .normal) [] (w.forCall tape i)))
    (contract : ∀ (W : World) (base : Nat) (args : Array Value) (ds gs : List (DataW H)) (before : List MemPlace),
      (∀ (j : Nat) t v, fn.params[j]? = some t → args[j]? = some v → Value.okWide C.prog W .any base t v) →
      DataW.Whole enc C.prog fn.params.toList s.vars apart W args.toList ds gs before →
      (DataW.weightsEach C.prog (fn.params.toList ++ s.plain.varTypes C.prog) (ds ++ gs)).all (· ≤ reachBytes) = true → X W args → W.ShapedOpen C.prog →
      Calls C.prog f args W fun e W' => ∃ v, e = .returned v ∧ s.post enc C.prog fn apart fresh handsOn again W args v W') :
    ReturnsInHanded a C os f .any (fun w args => (s.pre enc C.prog fn conds apart w args ∧ X w args) ∧ sizedMet enc C.prog fn (OpenSpec.ofChange s) apart w args) (s.post enc C.prog fn apart fresh handsOn again) := by
  refine returnsInHanded_of_calls own started noInit witness ?_
  intro w tape i _ hsh _ hok hpre hholds
  obtain ⟨_, _, _, fn', hfn', _, _, _, _, hval⟩ := hok
  obtain rfl := Option.some.inj (hfn'.symm.trans hfn)
  obtain ⟨⟨⟨ds, gs, before, hw, hc⟩, hx⟩, hz⟩ := hpre
  have hw' := DataW.Whole.of_heap (w' := w.forCall tape i) (by rfl) hw
  refine (contract (w.forCall tape i) w.heap.size i.args ds gs before hval hw' (hz.weights hw) (hX _ _ _ (by rfl) hx) hsh).mono fun e W' ⟨v, he, hp⟩ => ?_
  subst he
  exact ChangeSpec.post_blind hp
section
variable {H : Type} {enc : TypeId × Value → H} {W : World}
theorem stays {t : TypeId} (hr : (Tryz.prog).readableRec t = true) (hrow : t < (Tryz.prog).types.size) {W' : World} {v : Value} {d : DataW H} {p : List MemPlace} (h : DataW.Trod enc Tryz.prog W 0 (fun _ => true) true t v d p) (hb : Below W.heap.size W W') (hlt : ∀ x ∈ p, x.block < W.heap.size) :
    DataW.Trod enc Tryz.prog W' 0 (fun b => decide (b < W.heap.size)) true t v d p := hb.trod laidOut hr hrow h hlt
theorem opens_ver : Opens enc Tryz.prog W 38 (fun v : Ver => [.sc (.int .i64 v.a), .sc (.int .i64 v.b), .sc (.int .i64 v.c), .sc (.string v.p)]) :=
  (opens_struct Tryz.underlying38 (by kernel_rfl) (OpensF.cons rfl (k := 1) (by kernel_rfl) (opens_int Tryz.underlying3) (OpensF.cons rfl (k := 1) (by kernel_rfl) (opens_int Tryz.underlying3) (OpensF.cons rfl (k := 1) (by kernel_rfl) (opens_int Tryz.underlying3)
    (OpensF.cons rfl (k := 1) (by kernel_rfl) (opens_string Tryz.underlying9) OpensF.nil))))).map (fun p : Int × Int × Int × ByteArray × Unit => ⟨p.1, p.2.1, p.2.2.1, p.2.2.2.1⟩) (fun p => rfl)
theorem opens_verS : Opens enc Tryz.prog W 38 (fun v : {v : Ver // v.p.size < 9223372036854775808} => [.sc (.int .i64 v.1.a), .sc (.int .i64 v.1.b), .sc (.int .i64 v.1.c), .sc (.string v.1.p)]) :=
  (opens_struct Tryz.underlying38 (by kernel_rfl) (OpensF.cons rfl (k := 1) (by kernel_rfl) (opens_int Tryz.underlying3) (OpensF.cons rfl (k := 1) (by kernel_rfl) (opens_int Tryz.underlying3) (OpensF.cons rfl (k := 1) (by kernel_rfl) (opens_int Tryz.underlying3)
    (OpensF.cons rfl (k := 1) (by kernel_rfl) (opens_stringS Tryz.underlying9) OpensF.nil))))).map (fun p : Int × Int × Int × {s : ByteArray // s.size < 9223372036854775808} × Unit => ⟨⟨p.1, p.2.1, p.2.2.1, p.2.2.2.1.1⟩, p.2.2.2.1.2⟩) (fun p => rfl)
theorem opens_comp : Opens enc Tryz.prog W 48 (fun c : Cmp => [.sc (.int .i64 c.op), .sc (.int .i64 c.v.a), .sc (.int .i64 c.v.b), .sc (.int .i64 c.v.c), .sc (.string c.v.p)]) :=
  (opens_struct Tryz.underlying48 (by kernel_rfl) (OpensF.cons rfl (k := 1) (by kernel_rfl) (opens_int Tryz.underlying3) (OpensF.cons rfl (k := 4) (by kernel_rfl) opens_ver OpensF.nil))).map (fun p : Int × Ver × Unit => ⟨p.1, p.2.1⟩) (fun p => rfl)
noncomputable instance : Inhabited Cmp := ⟨Cmp.zero⟩
theorem opens_comps : Opens enc Tryz.prog W 46 (fun l : List Cmp => [cmpsT l]) :=
  opens_slice Cmp.t (fun c => rfl) Tryz.underlying46 (fun c => by rw [show (Tryz.prog).cellsOf 48 = 5 by kernel_rfl]; rfl) (by rw [show (Tryz.prog).cellsOf 48 = 5 by kernel_rfl]; omega) opens_comp
theorem opens_rng : Opens enc Tryz.prog W 25 (fun r : Rng => [.ls (r.map cmpsT)]) :=
  (opens_struct Tryz.underlying25 (by kernel_rfl) (OpensF.cons rfl (k := 1) (by kernel_rfl) (opens_slice cmpsT (fun l => rfl) Tryz.underlying23 (fun c => by rw [show (Tryz.prog).cellsOf 46 = 1 by kernel_rfl]; rfl) (by rw [show (Tryz.prog).cellsOf 46 = 1 by kernel_rfl]; omega) opens_comps) OpensF.nil)).map
    (fun p : Rng × Unit => p.1) (fun p => rfl)
end
end Go.Lg.Tryz
