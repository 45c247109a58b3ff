/- Words and laws that the theorem leans on (part 4). -/
import Derived.Test.YtdjdfdfelcnpmaaGreatDoorPa9be2696
import Derived.Test.YtdjdfdfelcnpmaaGreatDoorPa894284e
import Derived.Test.YtdjdfdfelcnpmaaGreatDoorPbf2abc0f
import Derived.Deep.Slices
import Derived.ChangeArms
import Derived.Lib.SmallJoins
import Derived.RangeFuncNested
import Derived.RangeFuncBound
import Derived.RangeFuncCalls
import Derived.RangeFuncLeaves
import Derived.RangeFuncFrom
import Derived.Below
import Derived.Deep.Draws
import Derived.Laws.OwnMore
import Derived.Laws.Cover3
import Derived.Laws.BytesArg

set_option linter.unusedVariables false
set_option linter.unusedSimpArgs false
namespace Go.Lg.Tryz
open Go Go.Proofs Go.RowKit Go.Lib Go.Lg.Sem
theorem idxCmp (g : Nat) (caps : List AV) (H : Store) {α : Type} (enc : α → T) (p : α → Bool) (hc : ExtOnly caps) (hH : ∀ κ v, lk H κ = some v → (∃ j, κ = .e j)) (hHr : ∀ κ ty cells, lk H κ = some (.blk ty cells) → ExtOnly cells) (xs : List α)
    (hx : ∀ x, x ∈ xs → El true 5 (enc x) ∧ Fn Tryz.prog Gw g (.tr (enc x) :: caps) H (· = .tr (.sc (.bool (p x))))) (hn : xs.length ≤ 1073741824) :
    Fn Tryz.prog Gw 119 [.tr (.ls (xs.map enc)), .fn g caps] H (fun r => ∃ i : Int, r = .tr (.sc (.int .i64 i)) ∧ (decide (i ≥ 0) = xs.any p)) := by
  refine Fn.of tab_ok Tryz.func119 rfl (by decide) (by simp [Tryz.f119]) rfl (fun κ v h => by obtain ⟨j, rfl⟩ := hH κ v h; rfl) Gw.below ?_
  repeat' (first | refine Tr.seq ?_ | refine Tr.region ?_ | refine Sq.ev tab_ok rfl rfl ?_ | refine Sq.nil ?_ | (refine Sq.guard rfl rfl (fun _ => ?_) (fun _ => ?_) <;> refine Sq.ev tab_ok rfl rfl ?_) | (refine Tr.cond rfl (fun _ => ?_) (fun _ => ?_) <;> try (rename_i h; cases h; done)) | refine Tr.block ?_ | refine Tr.skip ?_ | refine Tr.ret ⟨_, rfl, ?_⟩)
  refine Tr.loopS (fun i : Nat => [(.s 0, .tr (.ls (xs.map enc))), (.s 1, .fn g caps), (.s 7, .tr (.sc (.int .i64 ((xs.map enc).length : Int)))), (.s 8, .tr (.sc (.int .i64 (i : Int))))] ++ H) (fun i => xs.length - i) (fun i => i ≤ xs.length ∧ (xs.take i).any p = false)
    0 ⟨by omega, by simp⟩ (Sub.app ⟨rfl, rfl, rfl, rfl, trivial⟩ (fun κ v h => by obtain ⟨j, rfl⟩ := hH κ v h; exact h)) ?_
  rintro i ⟨hi, hp⟩
  repeat' (first | refine Tr.seq ?_ | refine Tr.region ?_ | refine Sq.ev tab_ok rfl rfl ?_ | refine Sq.nil ?_ | refine Tr.block ?_ | refine Tr.skip ?_)
  refine Tr.cond rfl (fun h => ?_) (fun h => ?_)
  · have hlt : i < xs.length := by simpa using h
    obtain ⟨hxe, hxf⟩ := hx _ (List.getElem_mem hlt)
    repeat' (first | refine Tr.seq ?_ | refine Tr.region ?_ | refine Sq.ev tab_ok rfl rfl ?_ | refine Sq.nil ?_ | refine Tr.block ?_ | refine Tr.skip ?_)
    refine Sq.index (x := enc xs[i]) tab_ok rfl (by omega) (by simp [hlt]) hxe.len ?_
    refine Sq.loadEl (x := enc xs[i]) tab_ok rfl hxe ?_
    refine Sq.callE (H := H) rfl (by
      intro x hx
      rcases List.mem_cons.1 hx with rfl | hx
      · intro κ h; cases h
      · exact hc x hx) (fun κ v h => by obtain ⟨j, rfl⟩ := hH κ v h; exact ⟨⟨j, rfl⟩, h⟩) hHr hxf ?_
    rintro _ rfl
    refine Sq.nil ?_
    refine Tr.cond rfl (fun hb => ?_) (fun hb => ?_)
    · repeat' (first | refine Tr.seq ?_ | refine Tr.region ?_ | refine Sq.ev tab_ok rfl rfl ?_ | refine Sq.nil ?_ | (refine Sq.guard rfl rfl (fun _ => ?_) (fun _ => ?_) <;> refine Sq.ev tab_ok rfl rfl ?_) | (refine Tr.cond rfl (fun _ => ?_) (fun _ => ?_) <;> try (rename_i h; cases h; done)) | refine Tr.block ?_ | refine Tr.skip ?_ | refine Tr.ret ⟨_, rfl, ?_⟩)
      refine ⟨_, rfl, ?_⟩
      have : xs.any p = true := List.any_eq_true.2 ⟨_, List.getElem_mem hlt, hb⟩
      rw [this]; simp
    · refine Tr.skip ?_
      refine Tr.region ?_
      refine Sq.ev tab_ok rfl rfl ?_
      refine Sq.re (wrapz (z := ((i + 1 : Nat) : Int)) (by omega) (by omega) (by omega)) ?_
      refine Sq.ev tab_ok rfl rfl ?_
      refine Sq.nil ?_
      refine ⟨i + 1, ⟨by omega, ?_⟩, by omega, Sub.app ⟨rfl, rfl, rfl, rfl, trivial⟩ (fun κ v h => by obtain ⟨j, rfl⟩ := hH κ v h; exact h)⟩
      rw [List.take_succ_eq_append_getElem hlt, List.any_append, hp]; simp [hb]
  · have hge : ¬ i < xs.length := by simpa using h
    refine Tr.exit ?_
    repeat' (first | refine Tr.seq ?_ | refine Tr.region ?_ | refine Sq.ev tab_ok rfl rfl ?_ | refine Sq.nil ?_ | (refine Sq.guard rfl rfl (fun _ => ?_) (fun _ => ?_) <;> refine Sq.ev tab_ok rfl rfl ?_) | (refine Tr.cond rfl (fun _ => ?_) (fun _ => ?_) <;> try (rename_i h; cases h; done)) | refine Tr.block ?_ | refine Tr.skip ?_ | refine Tr.ret ⟨_, rfl, ?_⟩)
    refine ⟨_, rfl, ?_⟩
    rw [List.take_of_length_le (by omega)] at hp
    rw [hp]; rfl
theorem containsCmp (g : Nat) (caps : List AV) (H : Store) {α : Type} (enc : α → T) (p : α → Bool) (hc : ExtOnly caps) (hH : ∀ κ v, lk H κ = some v → (∃ j, κ = .e j)) (hHr : ∀ κ ty cells, lk H κ = some (.blk ty cells) → ExtOnly cells) (xs : List α)
    (hx : ∀ x, x ∈ xs → El true 5 (enc x) ∧ Fn Tryz.prog Gw g (.tr (enc x) :: caps) H (· = .tr (.sc (.bool (p x))))) (hn : xs.length ≤ 1073741824) :
    Fn Tryz.prog Gw 92 [.tr (.ls (xs.map enc)), .fn g caps] H (· = .tr (.sc (.bool (xs.any p)))) := by
  refine Fn.of tab_ok Tryz.func92 rfl (by decide) (by simp [Tryz.f92]) rfl (fun κ v h => by obtain ⟨j, rfl⟩ := hH κ v h; rfl) Gw.below ?_
  repeat' (first | refine Tr.seq ?_ | refine Tr.region ?_ | refine Sq.ev tab_ok rfl rfl ?_ | refine Sq.nil ?_ | (refine Sq.guard rfl rfl (fun _ => ?_) (fun _ => ?_) <;> refine Sq.ev tab_ok rfl rfl ?_) | (refine Tr.cond rfl (fun _ => ?_) (fun _ => ?_) <;> try (rename_i h; cases h; done)) | refine Tr.block ?_ | refine Tr.skip ?_ | refine Tr.ret ⟨_, rfl, ?_⟩)
  refine Sq.callE (H := H) rfl (by
      intro x hx
      rcases List.mem_cons.1 hx with rfl | hx
      · intro κ h; cases h
      · rcases List.mem_cons.1 hx with rfl | hx
        · intro κ h; cases h with | fn _ _ x hx h => exact hc x hx κ h
        · cases hx) (fun κ v h => by obtain ⟨j, rfl⟩ := hH κ v h; exact ⟨⟨j, rfl⟩, h⟩) hHr (idxCmp g caps H enc p hc hH hHr xs hx hn) ?_
  rintro _ ⟨i, rfl, hi⟩
  repeat' (first | refine Tr.seq ?_ | refine Tr.region ?_ | refine Sq.ev tab_ok rfl rfl ?_ | refine Sq.nil ?_ | (refine Sq.guard rfl rfl (fun _ => ?_) (fun _ => ?_) <;> refine Sq.ev tab_ok rfl rfl ?_) | (refine Tr.cond rfl (fun _ => ?_) (fun _ => ?_) <;> try (rename_i h; cases h; done)) | refine Tr.block ?_ | refine Tr.skip ?_ | refine Tr.ret ⟨_, rfl, ?_⟩)
  rw [hi]
theorem idxCmps (g : Nat) (caps : List AV) (H : Store) {α : Type} (enc : α → T) (p : α → Bool) (hc : ExtOnly caps) (hH : ∀ κ v, lk H κ = some v → (∃ j, κ = .e j)) (hHr : ∀ κ ty cells, lk H κ = some (.blk ty cells) → ExtOnly cells) (xs : List α)
    (hx : ∀ x, x ∈ xs → El false 1 (enc x) ∧ Fn Tryz.prog Gw g (.tr (enc x) :: caps) H (· = .tr (.sc (.bool (p x))))) (hn : xs.length ≤ 1073741824) :
    Fn Tryz.prog Gw 118 [.tr (.ls (xs.map enc)), .fn g caps] H (fun r => ∃ i : Int, r = .tr (.sc (.int .i64 i)) ∧ (decide (i ≥ 0) = xs.any p)) := by
  refine Fn.of tab_ok Tryz.func118 rfl (by decide) (by simp [Tryz.f118]) rfl (fun κ v h => by obtain ⟨j, rfl⟩ := hH κ v h; rfl) Gw.below ?_
  repeat' (first | refine Tr.seq ?_ | refine Tr.region ?_ | refine Sq.ev tab_ok rfl rfl ?_ | refine Sq.nil ?_ | (refine Sq.guard rfl rfl (fun _ => ?_) (fun _ => ?_) <;> refine Sq.ev tab_ok rfl rfl ?_) | (refine Tr.cond rfl (fun _ => ?_) (fun _ => ?_) <;> try (rename_i h; cases h; done)) | refine Tr.block ?_ | refine Tr.skip ?_ | refine Tr.ret ⟨_, rfl, ?_⟩)
  refine Tr.loopS (fun i : Nat => [(.s 0, .tr (.ls (xs.map enc))), (.s 1, .fn g caps), (.s 7, .tr (.sc (.int .i64 ((xs.map enc).length : Int)))), (.s 8, .tr (.sc (.int .i64 (i : Int))))] ++ H) (fun i => xs.length - i) (fun i => i ≤ xs.length ∧ (xs.take i).any p = false)
    0 ⟨by omega, by simp⟩ (Sub.app ⟨rfl, rfl, rfl, rfl, trivial⟩ (fun κ v h => by obtain ⟨j, rfl⟩ := hH κ v h; exact h)) ?_
  rintro i ⟨hi, hp⟩
  repeat' (first | refine Tr.seq ?_ | refine Tr.region ?_ | refine Sq.ev tab_ok rfl rfl ?_ | refine Sq.nil ?_ | refine Tr.block ?_ | refine Tr.skip ?_)
  refine Tr.cond rfl (fun h => ?_) (fun h => ?_)
  · have hlt : i < xs.length := by simpa using h
    obtain ⟨hxe, hxf⟩ := hx _ (List.getElem_mem hlt)
    repeat' (first | refine Tr.seq ?_ | refine Tr.region ?_ | refine Sq.ev tab_ok rfl rfl ?_ | refine Sq.nil ?_ | refine Tr.block ?_ | refine Tr.skip ?_)
    refine Sq.index (x := enc xs[i]) tab_ok rfl (by omega) (by simp [hlt]) hxe.len ?_
    refine Sq.loadEl (x := enc xs[i]) tab_ok rfl hxe ?_
    refine Sq.callE (H := H) rfl (by
      intro x hx
      rcases List.mem_cons.1 hx with rfl | hx
      · intro κ h; cases h
      · exact hc x hx) (fun κ v h => by obtain ⟨j, rfl⟩ := hH κ v h; exact ⟨⟨j, rfl⟩, h⟩) hHr hxf ?_
    rintro _ rfl
    refine Sq.nil ?_
    refine Tr.cond rfl (fun hb => ?_) (fun hb => ?_)
    · repeat' (first | refine Tr.seq ?_ | refine Tr.region ?_ | refine Sq.ev tab_ok rfl rfl ?_ | refine Sq.nil ?_ | (refine Sq.guard rfl rfl (fun _ => ?_) (fun _ => ?_) <;> refine Sq.ev tab_ok rfl rfl ?_) | (refine Tr.cond rfl (fun _ => ?_) (fun _ => ?_) <;> try (rename_i h; cases h; done)) | refine Tr.block ?_ | refine Tr.skip ?_ | refine Tr.ret ⟨_, rfl, ?_⟩)
      refine ⟨_, rfl, ?_⟩
      have : xs.any p = true := List.any_eq_true.2 ⟨_, List.getElem_mem hlt, hb⟩
      rw [this]; simp
    · refine Tr.skip ?_
      refine Tr.region ?_
      refine Sq.ev tab_ok rfl rfl ?_
      refine Sq.re (wrapz (z := ((i + 1 : Nat) : Int)) (by omega) (by omega) (by omega)) ?_
      refine Sq.ev tab_ok rfl rfl ?_
      refine Sq.nil ?_
      refine ⟨i + 1, ⟨by omega, ?_⟩, by omega, Sub.app ⟨rfl, rfl, rfl, rfl, trivial⟩ (fun κ v h => by obtain ⟨j, rfl⟩ := hH κ v h; exact h)⟩
      rw [List.take_succ_eq_append_getElem hlt, List.any_append, hp]; simp [hb]
  · have hge : ¬ i < xs.length := by simpa using h
    refine Tr.exit ?_
    repeat' (first | refine Tr.seq ?_ | refine Tr.region ?_ | refine Sq.ev tab_ok rfl rfl ?_ | refine Sq.nil ?_ | (refine Sq.guard rfl rfl (fun _ => ?_) (fun _ => ?_) <;> refine Sq.ev tab_ok rfl rfl ?_) | (refine Tr.cond rfl (fun _ => ?_) (fun _ => ?_) <;> try (rename_i h; cases h; done)) | refine Tr.block ?_ | refine Tr.skip ?_ | refine Tr.ret ⟨_, rfl, ?_⟩)
    refine ⟨_, rfl, ?_⟩
    rw [List.take_of_length_le (by omega)] at hp
    rw [hp]; rfl
theorem containsCmps (g : Nat) (caps : List AV) (H : Store) {α : Type} (enc : α → T) (p : α → Bool) (hc : ExtOnly caps) (hH : ∀ κ v, lk H κ = some v → (∃ j, κ = .e j)) (hHr : ∀ κ ty cells, lk H κ = some (.blk ty cells) → ExtOnly cells) (xs : List α)
    (hx : ∀ x, x ∈ xs → El false 1 (enc x) ∧ Fn Tryz.prog Gw g (.tr (enc x) :: caps) H (· = .tr (.sc (.bool (p x))))) (hn : xs.length ≤ 1073741824) :
    Fn Tryz.prog Gw 90 [.tr (.ls (xs.map enc)), .fn g caps] H (· = .tr (.sc (.bool (xs.any p)))) := by
  refine Fn.of tab_ok Tryz.func90 rfl (by decide) (by simp [Tryz.f90]) rfl (fun κ v h => by obtain ⟨j, rfl⟩ := hH κ v h; rfl) Gw.below ?_
  repeat' (first | refine Tr.seq ?_ | refine Tr.region ?_ | refine Sq.ev tab_ok rfl rfl ?_ | refine Sq.nil ?_ | (refine Sq.guard rfl rfl (fun _ => ?_) (fun _ => ?_) <;> refine Sq.ev tab_ok rfl rfl ?_) | (refine Tr.cond rfl (fun _ => ?_) (fun _ => ?_) <;> try (rename_i h; cases h; done)) | refine Tr.block ?_ | refine Tr.skip ?_ | refine Tr.ret ⟨_, rfl, ?_⟩)
  refine Sq.callE (H := H) rfl (by
      intro x hx
      rcases List.mem_cons.1 hx with rfl | hx
      · intro κ h; cases h
      · rcases List.mem_cons.1 hx with rfl | hx
        · intro κ h; cases h with | fn _ _ x hx h => exact hc x hx κ h
        · cases hx) (fun κ v h => by obtain ⟨j, rfl⟩ := hH κ v h; exact ⟨⟨j, rfl⟩, h⟩) hHr (idxCmps g caps H enc p hc hH hHr xs hx hn) ?_
  rintro _ ⟨i, rfl, hi⟩
  repeat' (first | refine Tr.seq ?_ | refine Tr.region ?_ | refine Sq.ev tab_ok rfl rfl ?_ | refine Sq.nil ?_ | (refine Sq.guard rfl rfl (fun _ => ?_) (fun _ => ?_) <;> refine Sq.ev tab_ok rfl rfl ?_) | (refine Tr.cond rfl (fun _ => ?_) (fun _ => ?_) <;> try (rename_i h; cases h; done)) | refine Tr.block ?_ | refine Tr.skip ?_ | refine Tr.ret ⟨_, rfl, ?_⟩)
  rw [hi]
abbrev rngArg (r : Rng) : AV := .tr (rngT r)
theorem cmp_el (c : Cmp) : El true 5 (Cmp.t c) := .inl ⟨rfl, _, rfl, rfl⟩
theorem cmps_el (l : List Cmp) : El false 1 (cmpsT l) := .inr ⟨rfl, rfl, rfl⟩
theorem noH {R : Loc → AV → Prop} : ∀ κ v, lk ([] : Store) κ = some v → R κ v := fun κ v h => nomatch h
theorem allRight_ok (l : List Cmp) (hl : ∀ c, c ∈ l → c.ok) (hn : l.length ≤ 1073741824) :
    Fn Tryz.prog Gw 92 [.tr (cmpsT l), .fn 113 []] [] (· = bool (l.any fun c => !cmpRight c)) :=
  containsCmp _ [] [] Cmp.t _ (fun x h => nomatch h) noH (fun κ ty cells h => nomatch h) l (fun c hc => ⟨cmp_el c, cmpRight1_ok c (hl c hc)⟩) hn
theorem rngRight_ok (r : Rng) (hr : r.ok) (hn : r.length ≤ 1073741824) : Fn Tryz.prog Gw 83 [.tr (rngT r)] [] (· = bool (rngRight r)) := by
  refine Fn.of tab_ok Tryz.func83 rfl (by decide) (by simp [Tryz.f83]) rfl (fun κ v h => by cases h) Gw.below ?_
  repeat' (first | refine Tr.seq ?_ | refine Tr.region ?_ | refine Sq.ev tab_ok rfl rfl ?_ | refine Sq.nil ?_ | (refine Sq.guard rfl rfl (fun _ => ?_) (fun _ => ?_) <;> refine Sq.ev tab_ok rfl rfl ?_) | (refine Tr.cond rfl (fun _ => ?_) (fun _ => ?_) <;> try (rename_i h; cases h; done)) | refine Tr.block ?_ | refine Tr.skip ?_ | refine Tr.ret ⟨_, rfl, ?_⟩)
  refine Tr.loopS (fun i : Nat => [(.s 1, .ptr (.l 1) 0), (.l 1, .blk 81 [.tr (.ls (r.map cmpsT))]), (.s 6, .tr (.ls (r.map cmpsT))), (.s 7, int (r.map cmpsT).length), (.s 8, int i)]) (fun i => r.length - i)
    (fun i => i ≤ r.length ∧ (r.take i).all (fun l => sizedB l.length && l.all cmpRight) = true)
    0 ⟨by omega, by simp⟩ (Sub.app (l := [_, _, _, _, _]) (H := []) ⟨rfl, rfl, rfl, rfl, rfl, trivial⟩ (fun κ v h => nomatch h)) ?_
  rintro i ⟨hi, hp⟩
  repeat' (first | refine Tr.seq ?_ | refine Tr.region ?_ | refine Sq.ev tab_ok rfl rfl ?_ | refine Sq.nil ?_ | refine Tr.block ?_ | refine Tr.skip ?_)
  refine Tr.cond rfl (fun h => ?_) (fun h => ?_)
  · have hlt : i < r.length := by simpa using h
    obtain ⟨hl1, hl2⟩ := hr r[i] (List.getElem_mem hlt)
    repeat' (first | refine Tr.seq ?_ | refine Tr.region ?_ | refine Sq.ev tab_ok rfl rfl ?_ | refine Sq.nil ?_ | refine Tr.block ?_ | refine Tr.skip ?_)
    refine Sq.index (x := cmpsT r[i]) tab_ok rfl (by omega) (by simp [hlt]) rfl ?_
    repeat' (first | refine Tr.seq ?_ | refine Tr.region ?_ | refine Sq.ev tab_ok rfl rfl ?_ | refine Sq.nil ?_ | (refine Sq.guard rfl rfl (fun _ => ?_) (fun _ => ?_) <;> refine Sq.ev tab_ok rfl rfl ?_) | (refine Tr.cond rfl (fun _ => ?_) (fun _ => ?_) <;> try (rename_i h; cases h; done)) | refine Tr.block ?_ | refine Tr.skip ?_ | refine Tr.ret ⟨_, rfl, ?_⟩)
    refine Sq.callv rfl (sized_ok _) ?_
    repeat' (first | refine Tr.seq ?_ | refine Tr.region ?_ | refine Sq.ev tab_ok rfl rfl ?_ | refine Sq.nil ?_ | (refine Sq.guard rfl rfl (fun _ => ?_) (fun _ => ?_) <;> refine Sq.ev tab_ok rfl rfl ?_) | (refine Tr.cond rfl (fun _ => ?_) (fun _ => ?_) <;> try (rename_i h; cases h; done)) | refine Tr.block ?_ | refine Tr.skip ?_ | refine Tr.ret ⟨_, rfl, ?_⟩)
    all_goals first | (refine Sq.callv rfl (allRight_ok r[i] hl2 hl1) ?_) | skip
    all_goals repeat' (first | refine Tr.seq ?_ | refine Tr.region ?_ | refine Sq.ev tab_ok rfl rfl ?_ | refine Sq.nil ?_ | (refine Sq.guard rfl rfl (fun _ => ?_) (fun _ => ?_) <;> refine Sq.ev tab_ok rfl rfl ?_) | (refine Tr.cond rfl (fun _ => ?_) (fun _ => ?_) <;> try (rename_i h; cases h; done)) | refine Tr.block ?_ | refine Tr.skip ?_ | refine Tr.ret ⟨_, rfl, ?_⟩)
    all_goals first
      | refine ⟨i + 1, ⟨by omega, ?_⟩, by omega, Sub.app (l := [_, _, _, _, _]) (H := []) ⟨rfl, rfl, rfl, rfl, congrArg some (wrapz (by omega) (by omega) (by omega)), trivial⟩ (fun κ v h => nomatch h)⟩
        rename_i h1 h2
        rw [List.take_succ_eq_append_getElem hlt, List.all_append, hp]
        simp only [List.length_map, Bool.not_eq_false', List.any_eq_false, Bool.not_eq_true', Bool.not_eq_false] at h1 h2
        simp only [List.all_cons, List.all_nil, Bool.and_true, Bool.true_and, h1, List.all_eq_true]
        exact h2
      | show bool _ = bool _
        congr 3
        have : (sizedB r[i].length && r[i].all cmpRight) = false := by
          rename_i h1 h2
          simp only [List.length_map, Bool.not_eq_false', Bool.not_eq_true'] at h1 h2
          first
            | (rw [h1]; rfl)
            | (have : r[i].all cmpRight = false := by
                 obtain ⟨c, hc, hc2⟩ := List.any_eq_true.1 h2
                 rw [← Bool.not_eq_true, List.all_eq_true]
                 intro h
                 rw [h c hc] at hc2; cases hc2
               rw [this, Bool.and_false])
        have h2 : (r.all fun l => sizedB l.length && l.all cmpRight) = false := by
          rw [← Bool.not_eq_true, List.all_eq_true]
          intro h
          rw [h _ (List.getElem_mem hlt)] at this; cases this
        simp only [rngRight, h2, Bool.false_and]
  · have hge : ¬ i < r.length := by simpa using h
    rw [List.take_of_length_le (by omega)] at hp
    refine Tr.exit ?_
    repeat' (first | refine Tr.seq ?_ | refine Tr.region ?_ | refine Sq.ev tab_ok rfl rfl ?_ | refine Sq.nil ?_ | (refine Sq.guard rfl rfl (fun _ => ?_) (fun _ => ?_) <;> refine Sq.ev tab_ok rfl rfl ?_) | (refine Tr.cond rfl (fun _ => ?_) (fun _ => ?_) <;> try (rename_i h; cases h; done)) | refine Tr.block ?_ | refine Tr.skip ?_ | refine Tr.ret ⟨_, rfl, ?_⟩)
    refine Sq.callv rfl (sized_ok _) ?_
    repeat' (first | refine Tr.seq ?_ | refine Tr.region ?_ | refine Sq.ev tab_ok rfl rfl ?_ | refine Sq.nil ?_ | (refine Sq.guard rfl rfl (fun _ => ?_) (fun _ => ?_) <;> refine Sq.ev tab_ok rfl rfl ?_) | (refine Tr.cond rfl (fun _ => ?_) (fun _ => ?_) <;> try (rename_i h; cases h; done)) | refine Tr.block ?_ | refine Tr.skip ?_ | refine Tr.ret ⟨_, rfl, ?_⟩)
    show bool _ = bool _
    congr 3
    simp only [rngRight, hp, Bool.true_and, List.length_map]
theorem lk1 {k κ : Loc} {v u : AV} (h : lk [(k, u)] κ = some v) : κ = k ∧ v = u := by
  rw [lk_cons] at h
  split at h
  · rename_i e; exact ⟨e.symm, (Option.some.inj h).symm⟩
  · cases h
theorem has1_ok (v : Ver) (hv : v.ok) (c : Cmp) (hc : c.ok) : Fn Tryz.prog Gw 93 [.tr (Cmp.t c), .ptr (.e 0) 0] [(.e 0, .blk 75 [int v.a, int v.b, int v.c, str v.p])] (· = bool (!hasC c v)) := by
  refine Fn.of tab_ok Tryz.func93 rfl (by decide) (by simp [Tryz.f93]) rfl (fun κ v h => (lk1 h).1 ▸ rfl) Gw.below ?_
  repeat' (first | refine Tr.seq ?_ | refine Tr.region ?_ | refine Sq.ev tab_ok rfl rfl ?_ | refine Sq.nil ?_ | (refine Sq.guard rfl rfl (fun _ => ?_) (fun _ => ?_) <;> refine Sq.ev tab_ok rfl rfl ?_) | (refine Tr.cond rfl (fun _ => ?_) (fun _ => ?_) <;> try (rename_i h; cases h; done)) | refine Tr.block ?_ | refine Tr.skip ?_ | refine Tr.ret ⟨_, rfl, ?_⟩)
  refine Sq.callv rfl (has_ok c v hc hv) ?_
  repeat' (first | refine Tr.seq ?_ | refine Tr.region ?_ | refine Sq.ev tab_ok rfl rfl ?_ | refine Sq.nil ?_ | (refine Sq.guard rfl rfl (fun _ => ?_) (fun _ => ?_) <;> refine Sq.ev tab_ok rfl rfl ?_) | (refine Tr.cond rfl (fun _ => ?_) (fun _ => ?_) <;> try (rename_i h; cases h; done)) | refine Tr.block ?_ | refine Tr.skip ?_ | refine Tr.ret ⟨_, rfl, ?_⟩)
  rfl
abbrev verH (v : Ver) : Store := [(.e 0, .blk 75 [int v.a, int v.b, int v.c, str v.p])]
theorem verH_e (v : Ver) : ∀ κ u, lk (verH v) κ = some u → ∃ j, κ = .e j := fun κ u h => ⟨0, (lk1 h).1⟩
theorem verH_r (v : Ver) : ∀ κ ty cells, lk (verH v) κ = some (.blk ty cells) → ExtOnly cells := fun κ ty cells h => by
  obtain ⟨_, h2⟩ := lk1 h
  injection h2 with h3 h4
  subst h4
  intro x hx κ hr
  simp only [List.mem_cons, List.not_mem_nil, or_false] at hx
  rcases hx with rfl | rfl | rfl | rfl <;> cases hr
theorem ptr_ext : ExtOnly [.ptr (.e 0) 0] := fun x hx κ h => by
  obtain rfl := List.mem_singleton.1 hx
  cases h; exact ⟨0, rfl⟩
theorem has2_ok (v : Ver) (hv : v.ok) (l : List Cmp) (hl : ∀ c, c ∈ l → c.ok) (hn : l.length ≤ 1073741824) : Fn Tryz.prog Gw 91 [.tr (cmpsT l), .ptr (.e 0) 0] (verH v) (· = bool (l.all fun c => hasC c v)) := by
  refine Fn.of tab_ok Tryz.func91 rfl (by decide) (by simp [Tryz.f91]) rfl (fun κ v h => (lk1 h).1 ▸ rfl) Gw.below ?_
  repeat' (first | refine Tr.seq ?_ | refine Tr.region ?_ | refine Sq.ev tab_ok rfl rfl ?_ | refine Sq.nil ?_ | (refine Sq.guard rfl rfl (fun _ => ?_) (fun _ => ?_) <;> refine Sq.ev tab_ok rfl rfl ?_) | (refine Tr.cond rfl (fun _ => ?_) (fun _ => ?_) <;> try (rename_i h; cases h; done)) | refine Tr.block ?_ | refine Tr.skip ?_ | refine Tr.ret ⟨_, rfl, ?_⟩)
  refine Sq.callE (H := verH v) rfl (by
      intro x hx
      rcases List.mem_cons.1 hx with rfl | hx
      · intro κ h; cases h
      · rcases List.mem_cons.1 hx with rfl | hx
        · intro κ h; cases h with | fn _ _ x hx h => exact ptr_ext x hx κ h
        · cases hx) (fun κ u h => ⟨verH_e v κ u h, by obtain ⟨rfl, rfl⟩ := lk1 h; rfl⟩) (verH_r v)
    (containsCmp 93 [.ptr (.e 0) 0] (verH v) Cmp.t (fun c => !hasC c v) ptr_ext (verH_e v) (verH_r v) l (fun c hc => ⟨cmp_el c, has1_ok v hv c (hl c hc)⟩) hn) ?_
  rintro _ rfl
  repeat' (first | refine Tr.seq ?_ | refine Tr.region ?_ | refine Sq.ev tab_ok rfl rfl ?_ | refine Sq.nil ?_ | (refine Sq.guard rfl rfl (fun _ => ?_) (fun _ => ?_) <;> refine Sq.ev tab_ok rfl rfl ?_) | (refine Tr.cond rfl (fun _ => ?_) (fun _ => ?_) <;> try (rename_i h; cases h; done)) | refine Tr.block ?_ | refine Tr.skip ?_ | refine Tr.ret ⟨_, rfl, ?_⟩)
  show bool _ = bool _
  congr 3
  rw [Bool.eq_iff_iff, Bool.not_eq_true', ← Bool.not_eq_true, List.any_eq_true, List.all_eq_true]
  constructor
  · intro h c hc
    rcases hh : hasC c v with _ | _
    · exact absurd ⟨c, hc, by rw [hh]; rfl⟩ h
    · rfl
  · rintro h ⟨c, hc, h2⟩
    rw [h c hc] at h2; cases h2
theorem hasR_ok (r : Rng) (v : Ver) (hr : r.ok) (hn : r.length ≤ 1073741824) (hv : v.ok) : Fn Tryz.prog Gw 71 [.tr (rngT r), .tr (Ver.t v)] [] (· = bool (hasR r v)) := by
  refine Fn.of tab_ok Tryz.func71 rfl (by decide) (by simp [Tryz.f71]) rfl (fun κ v h => by cases h) Gw.below ?_
  repeat' (first | refine Tr.seq ?_ | refine Tr.region ?_ | refine Sq.ev tab_ok rfl rfl ?_ | refine Sq.nil ?_ | (refine Sq.guard rfl rfl (fun _ => ?_) (fun _ => ?_) <;> refine Sq.ev tab_ok rfl rfl ?_) | (refine Tr.cond rfl (fun _ => ?_) (fun _ => ?_) <;> try (rename_i h; cases h; done)) | refine Tr.block ?_ | refine Tr.skip ?_ | refine Tr.ret ⟨_, rfl, ?_⟩)
  refine Sq.callv rfl (rngRight_ok r hr hn) ?_
  repeat' (first | refine Tr.seq ?_ | refine Tr.region ?_ | refine Sq.ev tab_ok rfl rfl ?_ | refine Sq.nil ?_ | (refine Sq.guard rfl rfl (fun _ => ?_) (fun _ => ?_) <;> refine Sq.ev tab_ok rfl rfl ?_) | (refine Tr.cond rfl (fun _ => ?_) (fun _ => ?_) <;> try (rename_i h; cases h; done)) | refine Tr.block ?_ | refine Tr.skip ?_ | refine Tr.ret ⟨_, rfl, ?_⟩)
  all_goals first | (refine Sq.callv rfl (right_ok v hv) ?_) | skip
  all_goals repeat' (first | refine Tr.seq ?_ | refine Tr.region ?_ | refine Sq.ev tab_ok rfl rfl ?_ | refine Sq.nil ?_ | (refine Sq.guard rfl rfl (fun _ => ?_) (fun _ => ?_) <;> refine Sq.ev tab_ok rfl rfl ?_) | (refine Tr.cond rfl (fun _ => ?_) (fun _ => ?_) <;> try (rename_i h; cases h; done)) | refine Tr.block ?_ | refine Tr.skip ?_ | refine Tr.ret ⟨_, rfl, ?_⟩)
  all_goals first
    | (refine Sq.callv rfl (containsCmps 91 [.ptr (.e 0) 0] (verH v) cmpsT (fun l => l.all fun c => hasC c v) ptr_ext (verH_e v) (verH_r v) r (fun l hl => ⟨cmps_el l, has2_ok v hv l (hr l hl).2 (hr l hl).1⟩) hn) ?_)
    | skip
  all_goals repeat' (first | refine Tr.seq ?_ | refine Tr.region ?_ | refine Sq.ev tab_ok rfl rfl ?_ | refine Sq.nil ?_ | (refine Sq.guard rfl rfl (fun _ => ?_) (fun _ => ?_) <;> refine Sq.ev tab_ok rfl rfl ?_) | (refine Tr.cond rfl (fun _ => ?_) (fun _ => ?_) <;> try (rename_i h; cases h; done)) | refine Tr.block ?_ | refine Tr.skip ?_ | refine Tr.ret ⟨_, rfl, ?_⟩)
  all_goals
    show bool _ = bool _
    congr 3
    simp_all [hasR]
end Go.Lg.Tryz

set_option linter.unusedVariables false
set_option linter.unusedSimpArgs false
namespace Go.Lg.Tryz
open Go Go.Proofs Go.RowKit Go.Lib Go.Lg.Sem
abbrev u8 (b : UInt8) : AV := .tr (byteT b)
theorem by_ok (a b : Int) : Fn Tryz.prog Gw 85 [int a, int b] [] (· = int (cmpI a b)) := by
  refine Fn.of tab_ok Tryz.func85 rfl (by decide) (by simp [Tryz.f85]) rfl (fun κ v h => by cases h) Gw.below ?_
  repeat' (first | refine Tr.seq ?_ | refine Tr.region ?_ | refine Sq.ev tab_ok rfl rfl ?_ | refine Sq.nil ?_ | (refine Sq.guard rfl rfl (fun _ => ?_) (fun _ => ?_) <;> refine Sq.ev tab_ok rfl rfl ?_) | (refine Tr.cond rfl (fun _ => ?_) (fun _ => ?_) <;> try (rename_i h; cases h; done)) | refine Tr.block ?_ | refine Tr.skip ?_ | refine Tr.ret ⟨_, rfl, ?_⟩)
  all_goals
    show int _ = int _
    congr 3
    simp only [decide_eq_true_eq, decide_eq_false_iff_not] at *
    unfold cmpI
    (repeat' split) <;> first | rfl | omega
theorem digit_ok (b : UInt8) : Fn Tryz.prog Gw 133 [u8 b] [] (· = bool (isDig b)) := by
  refine Fn.of tab_ok Tryz.func133 rfl (by decide) (by simp [Tryz.f133]) rfl (fun κ v h => by cases h) Gw.below ?_
  repeat' (first | refine Tr.seq ?_ | refine Tr.region ?_ | refine Sq.ev tab_ok rfl rfl ?_ | refine Sq.nil ?_ | (refine Sq.guard rfl rfl (fun _ => ?_) (fun _ => ?_) <;> refine Sq.ev tab_ok rfl rfl ?_) | (refine Tr.cond rfl (fun _ => ?_) (fun _ => ?_) <;> try (rename_i h; cases h; done)) | refine Tr.block ?_ | refine Tr.skip ?_ | refine Tr.ret ⟨_, rfl, ?_⟩)
  all_goals
    show bool _ = bool _
    congr 3
    simp only [decide_eq_true_eq, decide_eq_false_iff_not] at *
    rw [Bool.eq_iff_iff]
    simp only [isDig, Bool.and_eq_true, decide_eq_true_eq, Bool.false_eq_true, false_iff, true_iff, iff_true, iff_false, eq_self]
    omega
/-- The number of a text, if it is one. -/
def numO (s : ByteArray) : Int × Bool := if numP s = true then (valP s, true) else (0, false)
theorem numO_f {s : ByteArray} (h : numP s = false) : numO s = (0, false) := by unfold numO; rw [if_neg (by rw [h]; decide)]
theorem numO_t {s : ByteArray} (h : numP s = true) : numO s = (valP s, true) := by unfold numO; rw [if_pos h]
theorem decV_app (l : List UInt8) (b : UInt8) (a : Nat) : decV a (l ++ [b]) = decV a l * 10 + (b.toNat - 48) := by simp [decV]
theorem Number_ok (s : ByteArray) : Fn Tryz.prog Gw 116 [str s] [] (· = .tup [int (numO s).1, bool (numO s).2]) := by
  have hz := data_length s
  refine Fn.of tab_ok Tryz.func116 rfl (by decide) (by simp [Tryz.f116]) rfl (fun κ v h => by cases h) Gw.below ?_
  repeat' (first | refine Tr.seq ?_ | refine Tr.region ?_ | refine Sq.ev tab_ok rfl rfl ?_ | refine Sq.nil ?_ | (refine Sq.guard rfl rfl (fun _ => ?_) (fun _ => ?_) <;> refine Sq.ev tab_ok rfl rfl ?_) | (refine Tr.cond rfl (fun _ => ?_) (fun _ => ?_) <;> try (rename_i h; cases h; done)) | refine Tr.block ?_ | refine Tr.skip ?_ | refine Tr.ret ⟨_, rfl, ?_⟩)
  · rename_i h _
    have : s.data.toList = [] := by
      have : s.size = 0 := by simpa using h
      rw [← List.length_eq_zero_iff, hz]; exact this
    rw [numO_f (by simp [numP, numL, this])]
  · rename_i h
    simp only [decide_eq_true_eq] at h
    have : decide (s.data.toList.length ≤ 6) = false := by simp only [decide_eq_false_iff_not]; omega
    rw [numO_f (by simp only [numP, numL, this, Bool.and_false, Bool.false_and])]
  · rename_i h1 h2
    obtain ⟨xs, hxs⟩ : ∃ xs, s.data.toList = xs := ⟨_, rfl⟩
    rw [hxs] at hz
    simp only [beq_eq_false_iff_ne, decide_eq_false_iff_not] at h1 h2
    refine Tr.loopS (fun i : Nat => [(.s 0, str s), (.s 4, int (decV 0 (xs.take i))), (.s 5, int i)]) (fun i => xs.length - i) (fun i => i ≤ xs.length ∧ (xs.take i).all isDig = true ∧ decV 0 (xs.take i) < 10 ^ i)
      0 ⟨by omega, by simp, by simp [decV]⟩ (Sub.app (l := [_, _, _]) (H := []) ⟨rfl, rfl, rfl, trivial⟩ (fun κ v h => nomatch h)) ?_
    rintro i ⟨hi, hp, hd⟩
    have h10 : (10 : Nat) ^ i ≤ 1000000 := Nat.pow_le_pow_right (by decide) (by omega : i ≤ 6)
    repeat' (first | refine Tr.seq ?_ | refine Tr.region ?_ | refine Sq.ev tab_ok rfl rfl ?_ | refine Sq.nil ?_ | (refine Sq.guard rfl rfl (fun _ => ?_) (fun _ => ?_) <;> refine Sq.ev tab_ok rfl rfl ?_) | (refine Tr.cond rfl (fun _ => ?_) (fun _ => ?_) <;> try (rename_i h; cases h; done)) | refine Tr.block ?_ | refine Tr.skip ?_ | refine Tr.ret ⟨_, rfl, ?_⟩)
    · rename_i h
      have hlt : i < xs.length := by simp only [decide_eq_true_eq] at h; omega
      refine Sq.byte (b := xs[i]) tab_ok rfl (by omega) (by simp [hxs, hlt]) ?_
      repeat' (first | refine Tr.seq ?_ | refine Tr.region ?_ | refine Sq.ev tab_ok rfl rfl ?_ | refine Sq.nil ?_ | (refine Sq.guard rfl rfl (fun _ => ?_) (fun _ => ?_) <;> refine Sq.ev tab_ok rfl rfl ?_) | (refine Tr.cond rfl (fun _ => ?_) (fun _ => ?_) <;> try (rename_i h; cases h; done)) | refine Tr.block ?_ | refine Tr.skip ?_ | refine Tr.ret ⟨_, rfl, ?_⟩)
      refine Sq.callv rfl (digit_ok xs[i]) ?_
      repeat' (first | refine Tr.seq ?_ | refine Tr.region ?_ | refine Sq.ev tab_ok rfl rfl ?_ | refine Sq.nil ?_ | (refine Sq.guard rfl rfl (fun _ => ?_) (fun _ => ?_) <;> refine Sq.ev tab_ok rfl rfl ?_) | (refine Tr.cond rfl (fun _ => ?_) (fun _ => ?_) <;> try (rename_i h; cases h; done)) | refine Tr.block ?_ | refine Tr.skip ?_ | refine Tr.ret ⟨_, rfl, ?_⟩)
      · rename_i h
        have hb : isDig xs[i] = false := by simpa using h
        have : xs.all isDig = false := by
          rw [← Bool.not_eq_true, List.all_eq_true]
          intro h
          rw [h _ (List.getElem_mem hlt)] at hb; cases hb
        rw [numO_f (by simp only [numP, numL, hxs, this, Bool.and_false])]
      · rename_i h
        have hb : isDig xs[i] = true := by simpa using h
        have hb2 : 48 ≤ xs[i].toNat ∧ xs[i].toNat ≤ 57 := by simpa [isDig] using hb
        refine Sq.byte (b := xs[i]) tab_ok rfl (by omega) (by simp [hxs, hlt]) ?_
        repeat' (first | refine Tr.seq ?_ | refine Tr.region ?_ | refine Sq.ev tab_ok rfl rfl ?_ | refine Sq.nil ?_ | (refine Sq.guard rfl rfl (fun _ => ?_) (fun _ => ?_) <;> refine Sq.ev tab_ok rfl rfl ?_) | (refine Tr.cond rfl (fun _ => ?_) (fun _ => ?_) <;> try (rename_i h; cases h; done)) | refine Tr.block ?_ | refine Tr.skip ?_ | refine Tr.ret ⟨_, rfl, ?_⟩)
        have e1 : IntKind.i64.wrap (10 * (decV 0 (List.take i xs) : Int)) = 10 * (decV 0 (List.take i xs) : Int) := Go.IntWalk.i64_in _ ⟨by omega, by omega⟩
        have e2 : IntKind.u8.wrap ((xs[i].toNat : Int) - 48) = ((xs[i].toNat - 48 : Nat) : Int) := by
          rw [Go.IntWalk.u8_in _ ⟨by omega, by omega⟩]; omega
        have e3 : decV 0 (xs.take (i + 1)) = decV 0 (xs.take i) * 10 + (xs[i].toNat - 48) := by rw [List.take_succ_eq_append_getElem hlt, decV_app]
        refine ⟨i + 1, ⟨by omega, ?_, ?_⟩, by omega, Sub.app (l := [_, _, _]) (H := []) ⟨rfl, congrArg some (wrapz (by
            rw [e1, e2, e3, Go.IntWalk.i64_in _ ⟨by omega, by omega⟩]; omega) (by omega) (by rw [e3]; omega)), congrArg some (wrapz (by omega) (by omega) (by omega)), trivial⟩ (fun κ v h => nomatch h)⟩
        · rw [List.take_succ_eq_append_getElem hlt, List.all_append, hp]; simp [hb]
        · rw [e3, Nat.pow_succ]; omega
    · rename_i h
      have hge : xs.length ≤ i := by simp only [decide_eq_false_iff_not] at h; omega
      rw [List.take_of_length_le hge] at hp ⊢
      cases hc : xs with
      | nil => rw [hc] at hz; simp at hz; omega
      | cons c l =>
        rw [← hc]
        have hn : numP s = !(decide (c = 48) && decide (xs.length ≠ 1)) := by
          have e1 : decide (xs.length ≤ 6) = true := by simp only [decide_eq_true_eq]; omega
          simp only [numP, numL, hxs, e1, hp]
          rw [hc]; simp
        have hv : valP s = (decV 0 xs : Int) := by unfold valP numV; rw [hxs]
        have hc48 : (c = 48) ↔ (c.toNat = 48) := ⟨fun h => by rw [h]; rfl, fun h => UInt8.toNat_inj.1 h⟩
        refine Tr.exit ?_
        repeat' (first | refine Tr.seq ?_ | refine Tr.region ?_ | refine Sq.ev tab_ok rfl rfl ?_ | refine Sq.nil ?_ | (refine Sq.guard rfl rfl (fun _ => ?_) (fun _ => ?_) <;> refine Sq.ev tab_ok rfl rfl ?_) | (refine Tr.cond rfl (fun _ => ?_) (fun _ => ?_) <;> try (rename_i h; cases h; done)) | refine Tr.block ?_ | refine Tr.skip ?_ | refine Tr.ret ⟨_, rfl, ?_⟩)
        refine Sq.byte (b := c) tab_ok rfl (by omega) (by simp [hxs, hc]) ?_
        repeat' (first | refine Tr.seq ?_ | refine Tr.region ?_ | refine Sq.ev tab_ok rfl rfl ?_ | refine Sq.nil ?_ | (refine Sq.guard rfl rfl (fun _ => ?_) (fun _ => ?_) <;> refine Sq.ev tab_ok rfl rfl ?_) | (refine Tr.cond rfl (fun _ => ?_) (fun _ => ?_) <;> try (rename_i h; cases h; done)) | refine Tr.block ?_ | refine Tr.skip ?_ | refine Tr.ret ⟨_, rfl, ?_⟩)
        all_goals
          rename_i h3 h4
          show AV.tup _ = AV.tup _
        · have h5 : numP s = false := by
            rw [hn]; simp only [decide_eq_true_eq, beq_iff_eq] at h3 h4; simp [hc48]; omega
          rw [numO_f h5]
        · have h5 : numP s = true := by
            rw [hn]; simp only [decide_eq_false_iff_not, beq_iff_eq] at h3 h4; simp [hc48]; omega
          rw [numO_t h5, hv]
        · have h5 : numP s = true := by
            rw [hn]; simp only [beq_eq_false_iff_ne] at h3; simp [hc48]; omega
          rw [numO_t h5, hv]
theorem refMark_ok (s : ByteArray) : Fn Tryz.prog Gw 115 [str s] [] (· = bool (markL s.data.toList)) := by
  have hz := data_length s
  refine Fn.of tab_ok Tryz.func115 rfl (by decide) (by simp [Tryz.f115]) rfl (fun κ v h => by cases h) Gw.below ?_
  repeat' (first | refine Tr.seq ?_ | refine Tr.region ?_ | refine Sq.ev tab_ok rfl rfl ?_ | refine Sq.nil ?_ | (refine Sq.guard rfl rfl (fun _ => ?_) (fun _ => ?_) <;> refine Sq.ev tab_ok rfl rfl ?_) | (refine Tr.cond rfl (fun _ => ?_) (fun _ => ?_) <;> try (rename_i h; cases h; done)) | refine Tr.block ?_ | refine Tr.skip ?_ | refine Tr.ret ⟨_, rfl, ?_⟩)
  · rename_i h _
    have : s.data.toList = [] := by
      have : s.size = 0 := by simpa using h
      rw [← List.length_eq_zero_iff, hz]; exact this
    rw [this]; rfl
  · rename_i h
    simp only [decide_eq_true_eq] at h
    have : decide (s.data.toList.length ≤ 10) = false := by simp only [decide_eq_false_iff_not]; omega
    simp only [markL, this, Bool.and_false, Bool.false_and]
  · rename_i h1 h2
    obtain ⟨xs, hxs⟩ : ∃ xs, s.data.toList = xs := ⟨_, rfl⟩
    rw [hxs] at hz ⊢
    simp only [beq_eq_false_iff_ne, decide_eq_false_iff_not] at h1 h2
    refine Tr.loopS (fun i : Nat => [(.s 0, str s), (.s 3, bool ((xs.take i).all isDig)), (.s 4, int i)]) (fun i => xs.length - i) (fun i => i ≤ xs.length ∧ (xs.take i).all (fun b => okB b.toNat) = true)
      0 ⟨by omega, by simp⟩ (Sub.app (l := [_, _, _]) (H := []) ⟨rfl, rfl, rfl, trivial⟩ (fun κ v h => nomatch h)) ?_
    rintro i ⟨hi, hp⟩
    repeat' (first | refine Tr.seq ?_ | refine Tr.region ?_ | refine Sq.ev tab_ok rfl rfl ?_ | refine Sq.nil ?_ | (refine Sq.guard rfl rfl (fun _ => ?_) (fun _ => ?_) <;> refine Sq.ev tab_ok rfl rfl ?_) | (refine Tr.cond rfl (fun _ => ?_) (fun _ => ?_) <;> try (rename_i h; cases h; done)) | refine Tr.block ?_ | refine Tr.skip ?_ | refine Tr.ret ⟨_, rfl, ?_⟩)
    · rename_i h
      have hlt : i < xs.length := by simp only [decide_eq_true_eq] at h; omega
      refine Sq.byte (b := xs[i]) tab_ok rfl (by omega) (by simp [hxs, hlt]) ?_
      repeat' (first | refine Tr.seq ?_ | refine Tr.region ?_ | refine Sq.ev tab_ok rfl rfl ?_ | refine Sq.nil ?_ | (refine Sq.guard rfl rfl (fun _ => ?_) (fun _ => ?_) <;> refine Sq.ev tab_ok rfl rfl ?_) | (refine Tr.cond rfl (fun _ => ?_) (fun _ => ?_) <;> try (rename_i h; cases h; done)) | refine Tr.block ?_ | refine Tr.skip ?_ | refine Tr.ret ⟨_, rfl, ?_⟩)
      refine Sq.callv rfl (digit_ok xs[i]) ?_
      repeat' (first | refine Tr.seq ?_ | refine Tr.region ?_ | refine Sq.ev tab_ok rfl rfl ?_ | refine Sq.nil ?_ | (refine Sq.guard rfl rfl (fun _ => ?_) (fun _ => ?_) <;> refine Sq.ev tab_ok rfl rfl ?_) | (refine Tr.cond rfl (fun _ => ?_) (fun _ => ?_) <;> try (rename_i h; cases h; done)) | refine Tr.block ?_ | refine Tr.skip ?_ | refine Tr.ret ⟨_, rfl, ?_⟩)
      all_goals first | (refine Sq.byte (b := xs[i]) tab_ok rfl (by omega) (by simp [hxs, hlt]) ?_) | skip
      all_goals repeat' (first | refine Tr.seq ?_ | refine Tr.region ?_ | refine Sq.ev tab_ok rfl rfl ?_ | refine Sq.nil ?_ | (refine Sq.guard rfl rfl (fun _ => ?_) (fun _ => ?_) <;> refine Sq.ev tab_ok rfl rfl ?_) | (refine Tr.cond rfl (fun _ => ?_) (fun _ => ?_) <;> try (rename_i h; cases h; done)) | refine Tr.block ?_ | refine Tr.skip ?_ | refine Tr.ret ⟨_, rfl, ?_⟩)
      all_goals first | (refine Sq.byte (b := xs[i]) tab_ok rfl (by omega) (by simp [hxs, hlt]) ?_) | skip
      all_goals repeat' (first | refine Tr.seq ?_ | refine Tr.region ?_ | refine Sq.ev tab_ok rfl rfl ?_ | refine Sq.nil ?_ | (refine Sq.guard rfl rfl (fun _ => ?_) (fun _ => ?_) <;> refine Sq.ev tab_ok rfl rfl ?_) | (refine Tr.cond rfl (fun _ => ?_) (fun _ => ?_) <;> try (rename_i h; cases h; done)) | refine Tr.block ?_ | refine Tr.skip ?_ | refine Tr.ret ⟨_, rfl, ?_⟩)
      all_goals first
        | refine ⟨i + 1, ⟨by omega, ?_⟩, by omega, Sub.app (l := [_, _, _]) (H := []) ⟨rfl, by
            show some (bool _) = some (bool _)
            rw [List.take_succ_eq_append_getElem hlt, List.all_append]
            simp only [Bool.not_eq_true', Bool.not_eq_false'] at *
            simp [*], congrArg some (wrapz (by omega) (by omega) (by omega)), trivial⟩ (fun κ v h => nomatch h)⟩
          rw [List.take_succ_eq_append_getElem hlt, List.all_append, hp]
          simp only [decide_eq_false_iff_not, Bool.not_eq_true', Bool.not_eq_false', isDig, Bool.and_eq_true, decide_eq_true_eq] at *
          simp [okB]
          omega
        | show bool _ = bool _
          congr 3
          have : okB xs[i].toNat = false := by
            rw [← Bool.not_eq_true]
            simp only [decide_eq_true_eq, decide_eq_false_iff_not, Bool.not_eq_true', ← Bool.not_eq_true, isDig, okB, Bool.and_eq_true, Bool.or_eq_true] at *
            omega
          have h2 : (xs.all fun b => okB b.toNat) = false := by
            rw [← Bool.not_eq_true, List.all_eq_true]
            intro h
            rw [h _ (List.getElem_mem hlt)] at this; cases this
          simp only [markL, h2, Bool.and_false, Bool.false_and]
    · rename_i h
      have hge : xs.length ≤ i := by simp only [decide_eq_false_iff_not] at h; omega
      rw [List.take_of_length_le hge] at hp ⊢
      have hm : markL xs = (!(xs.all isDig) || numL xs) := by
        have e1 : xs.isEmpty = false := by
          cases xs with
          | nil => simp at hz; omega
          | cons _ _ => rfl
        have e2 : decide (xs.length ≤ 10) = true := by simp only [decide_eq_true_eq]; omega
        simp only [markL, e1, e2, hp, Bool.not_false, Bool.true_and]
      have hn2 : (numO s).2 = numL xs := by
        have : numP s = numL xs := by unfold numP; rw [hxs]
        cases hh : numP s with
        | true => rw [numO_t hh, ← this, hh]
        | false => rw [numO_f hh, ← this, hh]
      refine Tr.exit ?_
      repeat' (first | refine Tr.seq ?_ | refine Tr.region ?_ | refine Sq.ev tab_ok rfl rfl ?_ | refine Sq.nil ?_ | (refine Sq.guard rfl rfl (fun _ => ?_) (fun _ => ?_) <;> refine Sq.ev tab_ok rfl rfl ?_) | (refine Tr.cond rfl (fun _ => ?_) (fun _ => ?_) <;> try (rename_i h; cases h; done)) | refine Tr.block ?_ | refine Tr.skip ?_ | refine Tr.ret ⟨_, rfl, ?_⟩)
      refine Sq.callv rfl (Number_ok s) ?_
      repeat' (first | refine Tr.seq ?_ | refine Tr.region ?_ | refine Sq.ev tab_ok rfl rfl ?_ | refine Sq.nil ?_ | (refine Sq.guard rfl rfl (fun _ => ?_) (fun _ => ?_) <;> refine Sq.ev tab_ok rfl rfl ?_) | (refine Tr.cond rfl (fun _ => ?_) (fun _ => ?_) <;> try (rename_i h; cases h; done)) | refine Tr.block ?_ | refine Tr.skip ?_ | refine Tr.ret ⟨_, rfl, ?_⟩)
      all_goals
        rename_i h
        show bool _ = bool _
        congr 3
        rw [hn2] at h
        rw [hm, h]
        cases xs.all isDig <;> rfl
end Go.Lg.Tryz

set_option linter.unusedVariables false
set_option linter.unusedSimpArgs false
namespace Go.Lg.Tryz
open Go Go.Proofs Go.RowKit Go.Lib Go.Lg.Sem
theorem Cut_ok (s : ByteArray) (c : UInt8) (hs : s.size ≤ 1000000000) : Fn Tryz.prog Gw 86 [str s, u8 c] [] (· = .own 9 ((pieces (one c) s).map strT)) := by
  refine Fn.of tab_ok Tryz.func86 rfl (by decide) (by simp [Tryz.f86]) rfl (fun κ v h => by cases h) Gw.below ?_
  repeat' (first | refine Tr.seq ?_ | refine Tr.region ?_ | refine Sq.ev tab_ok rfl rfl ?_ | refine Sq.nil ?_ | (refine Sq.guard rfl rfl (fun _ => ?_) (fun _ => ?_) <;> refine Sq.ev tab_ok rfl rfl ?_) | (refine Tr.cond rfl (fun _ => ?_) (fun _ => ?_) <;> try (rename_i h; cases h; done)) | refine Tr.block ?_ | refine Tr.skip ?_ | refine Tr.ret ⟨_, rfl, ?_⟩)
  refine Tr.loopS (ι := Nat × Nat × List ByteArray) (fun x => [(.s 0, str s), (.s 1, u8 c), (.s 5, .own 9 (x.2.2.map strT)), (.s 6, int x.2.1), (.s 7, int x.1)]) (fun x => s.size - x.1)
    (fun x => x.1 ≤ s.size ∧ x.2.1 ≤ x.1 ∧ x.2.2.length ≤ x.2.1 ∧ (∀ j, x.2.1 ≤ j → j < x.1 → b8 s j ≠ c) ∧ pieces (one c) s = x.2.2 ++ pieces (one c) (s.extract x.2.1 s.size))
    (0, 0, []) ⟨Nat.zero_le _, Nat.le_refl _, Nat.le_refl _, fun j h1 h2 => absurd h2 (Nat.not_lt_zero _), by rw [ext_all]; rfl⟩ (Sub.app (l := [_, _, _, _, _]) (H := []) ⟨rfl, rfl, rfl, rfl, rfl, trivial⟩ (fun κ v h => nomatch h)) ?_
  rintro ⟨i, a, out⟩ ⟨hi, ha, ho, hno, hp⟩
  simp only at hi ha ho hno hp ⊢
  repeat' (first | refine Tr.seq ?_ | refine Tr.region ?_ | refine Sq.ev tab_ok rfl rfl ?_ | refine Sq.nil ?_ | (refine Sq.guard rfl rfl (fun _ => ?_) (fun _ => ?_) <;> refine Sq.ev tab_ok rfl rfl ?_) | (refine Tr.cond rfl (fun _ => ?_) (fun _ => ?_) <;> try (rename_i h; cases h; done)) | refine Tr.block ?_ | refine Tr.skip ?_ | refine Tr.ret ⟨_, rfl, ?_⟩)
  · rename_i h
    have hlt : i < s.size := by simp only [decide_eq_true_eq] at h; omega
    refine Sq.byte (b := b8 s i) tab_ok rfl (by omega) (b8_get s i hlt) ?_
    repeat' (first | refine Tr.seq ?_ | refine Tr.region ?_ | refine Sq.ev tab_ok rfl rfl ?_ | refine Sq.nil ?_ | (refine Sq.guard rfl rfl (fun _ => ?_) (fun _ => ?_) <;> refine Sq.ev tab_ok rfl rfl ?_) | (refine Tr.cond rfl (fun _ => ?_) (fun _ => ?_) <;> try (rename_i h; cases h; done)) | refine Tr.block ?_ | refine Tr.skip ?_ | refine Tr.ret ⟨_, rfl, ?_⟩)
    · rename_i h
      have hc : b8 s i = c := by simp only [beq_iff_eq] at h; rw [← UInt8.toNat_inj]; omega
      rw [cut_hit s c a i ha hlt hc hno] at hp
      refine Sq.substr tab_ok rfl (by show (0:Int) ≤ a; omega) (by show (a : Int) ≤ i; omega) (by show (i : Int) ≤ s.size; omega) ?_
      repeat' (first | refine Tr.seq ?_ | refine Tr.region ?_ | refine Sq.ev tab_ok rfl rfl ?_ | refine Sq.nil ?_ | (refine Sq.guard rfl rfl (fun _ => ?_) (fun _ => ?_) <;> refine Sq.ev tab_ok rfl rfl ?_) | (refine Tr.cond rfl (fun _ => ?_) (fun _ => ?_) <;> try (rename_i h; cases h; done)) | refine Tr.block ?_ | refine Tr.skip ?_ | refine Tr.ret ⟨_, rfl, ?_⟩)
      refine Sq.append tab_ok rfl (by intro y hy; simp only [List.mem_singleton] at hy; subst hy; rfl) (by simp; omega) ?_
      repeat' (first | refine Tr.seq ?_ | refine Tr.region ?_ | refine Sq.ev tab_ok rfl rfl ?_ | refine Sq.nil ?_ | (refine Sq.guard rfl rfl (fun _ => ?_) (fun _ => ?_) <;> refine Sq.ev tab_ok rfl rfl ?_) | (refine Tr.cond rfl (fun _ => ?_) (fun _ => ?_) <;> try (rename_i h; cases h; done)) | refine Tr.block ?_ | refine Tr.skip ?_ | refine Tr.ret ⟨_, rfl, ?_⟩)
      exact ⟨(i + 1, i + 1, out ++ [s.extract a i]), ⟨by show i + 1 ≤ s.size; omega, Nat.le_refl _, by simp; omega, fun j h1 h2 => absurd h2 (by simp only at h1 ⊢; omega), by rw [hp]; simp⟩, by show s.size - (i + 1) < s.size - i; omega,
        Sub.app (l := [_, _, _, _, _]) (H := []) ⟨rfl, rfl, congrArg some (congrArg (AV.own _) (by simp [Bd.lo, Bd.hi])), congrArg some (wrapz (by simp only; omega) (by simp only; omega) (by simp only; omega)), congrArg some (wrapz (by omega) (by omega) (by omega)), trivial⟩ (fun κ v h => nomatch h)⟩
    · rename_i h
      have hc : b8 s i ≠ c := by simp only [beq_eq_false_iff_ne] at h; intro h2; rw [h2] at h; exact h rfl
      exact ⟨(i + 1, a, out), ⟨by show i + 1 ≤ s.size; omega, by show a ≤ i + 1; omega, ho, fun j h1 h2 => by
          by_cases e : j = i
          · subst e; exact hc
          · exact hno j h1 (by simp only at h2; omega), hp⟩, by show s.size - (i + 1) < s.size - i; omega,
        Sub.app (l := [_, _, _, _, _]) (H := []) ⟨rfl, rfl, rfl, rfl, congrArg some (wrapz (by omega) (by omega) (by omega)), trivial⟩ (fun κ v h => nomatch h)⟩
  · rename_i h
    have hge : i = s.size := by simp only [decide_eq_false_iff_not] at h; omega
    subst hge
    rw [cut_miss s c a hno] at hp
    refine Tr.exit ?_
    repeat' (first | refine Tr.seq ?_ | refine Tr.region ?_ | refine Sq.ev tab_ok rfl rfl ?_ | refine Sq.nil ?_ | (refine Sq.guard rfl rfl (fun _ => ?_) (fun _ => ?_) <;> refine Sq.ev tab_ok rfl rfl ?_) | (refine Tr.cond rfl (fun _ => ?_) (fun _ => ?_) <;> try (rename_i h; cases h; done)) | refine Tr.block ?_ | refine Tr.skip ?_ | refine Tr.ret ⟨_, rfl, ?_⟩)
    refine Sq.substr tab_ok rfl (by show (0:Int) ≤ a; omega) (by show (a : Int) ≤ s.size; omega) (by show (s.size : Int) ≤ s.size; omega) ?_
    repeat' (first | refine Tr.seq ?_ | refine Tr.region ?_ | refine Sq.ev tab_ok rfl rfl ?_ | refine Sq.nil ?_ | (refine Sq.guard rfl rfl (fun _ => ?_) (fun _ => ?_) <;> refine Sq.ev tab_ok rfl rfl ?_) | (refine Tr.cond rfl (fun _ => ?_) (fun _ => ?_) <;> try (rename_i h; cases h; done)) | refine Tr.block ?_ | refine Tr.skip ?_ | refine Tr.ret ⟨_, rfl, ?_⟩)
    refine Sq.append tab_ok rfl (by intro y hy; simp only [List.mem_singleton] at hy; subst hy; rfl) (by simp; omega) ?_
    repeat' (first | refine Tr.seq ?_ | refine Tr.region ?_ | refine Sq.ev tab_ok rfl rfl ?_ | refine Sq.nil ?_ | (refine Sq.guard rfl rfl (fun _ => ?_) (fun _ => ?_) <;> refine Sq.ev tab_ok rfl rfl ?_) | (refine Tr.cond rfl (fun _ => ?_) (fun _ => ?_) <;> try (rename_i h; cases h; done)) | refine Tr.block ?_ | refine Tr.skip ?_ | refine Tr.ret ⟨_, rfl, ?_⟩)
    show AV.own _ _ = AV.own _ _
    rw [hp]
    simp [Bd.lo, Bd.hi]
theorem cut_dot (s : ByteArray) (hs : s.size ≤ 1000000000) : Fn Tryz.prog Gw 86 [str s, .tr (.sc (.int .u8 46))] [] (· = .own 9 ((pieces dot s).map strT)) := Cut_ok s 46 hs
theorem Pre_ok (s : ByteArray) (hs : s.size ≤ 1000000000) : Fn Tryz.prog Gw 84 [str s] [] (· = bool (preO s)) := by
  have lp := pieces_len s
  refine Fn.of tab_ok Tryz.func84 rfl (by decide) (by simp [Tryz.f84]) rfl (fun κ v h => by cases h) Gw.below ?_
  repeat' (first | refine Tr.seq ?_ | refine Tr.region ?_ | refine Sq.ev tab_ok rfl rfl ?_ | refine Sq.nil ?_ | (refine Sq.guard rfl rfl (fun _ => ?_) (fun _ => ?_) <;> refine Sq.ev tab_ok rfl rfl ?_) | (refine Tr.cond rfl (fun _ => ?_) (fun _ => ?_) <;> try (rename_i h; cases h; done)) | refine Tr.block ?_ | refine Tr.skip ?_ | refine Tr.ret ⟨_, rfl, ?_⟩)
  · rename_i h
    show bool _ = bool _
    congr 3
    simp only [ba_toList] at h
    have : s.data.toList = [] := by simpa using h
    simp [preO, ba_toList, this]
  · rename_i h
    have hp : preO s = (decide ((pieces dot s).length ≤ 4) && (pieces dot s).all (fun p => markL p.data.toList)) := by
      simp only [ba_toList] at h
      have : s.data.toList.isEmpty = false := by cases hh : s.data.toList <;> simp_all
      simp only [preO, ba_toList, this, Bool.false_or]; rfl
    rw [hp]
    have hc := cut_dot s hs
    generalize pieces dot s = x at *
    refine Sq.callv rfl (hc) ?_
    repeat' (first | refine Tr.seq ?_ | refine Tr.region ?_ | refine Sq.ev tab_ok rfl rfl ?_ | refine Sq.nil ?_ | (refine Sq.guard rfl rfl (fun _ => ?_) (fun _ => ?_) <;> refine Sq.ev tab_ok rfl rfl ?_) | (refine Tr.cond rfl (fun _ => ?_) (fun _ => ?_) <;> try (rename_i h; cases h; done)) | refine Tr.block ?_ | refine Tr.skip ?_ | refine Tr.ret ⟨_, rfl, ?_⟩)
    · rename_i h4
      have : decide (x.length ≤ 4) = false := by simp only [List.length_map, decide_eq_true_eq] at h4; simp only [decide_eq_false_iff_not]; omega
      rw [this]; rfl
    · rename_i h4
      have : decide (x.length ≤ 4) = true := by simp only [List.length_map, decide_eq_false_iff_not] at h4; simp only [decide_eq_true_eq]; omega
      rw [this, Bool.true_and]
      refine Tr.loopS (fun i : Nat => [(.s 3, .own 9 (x.map strT)), (.s 4, int i)]) (fun i => x.length - i) (fun i => i ≤ x.length ∧ (x.take i).all (fun p => markL p.data.toList) = true)
        0 ⟨by omega, by simp⟩ (Sub.app (l := [_, _]) (H := []) ⟨rfl, rfl, trivial⟩ (fun κ v h => nomatch h)) ?_
      rintro i ⟨hi, hp⟩
      repeat' (first | refine Tr.seq ?_ | refine Tr.region ?_ | refine Sq.ev tab_ok rfl rfl ?_ | refine Sq.nil ?_ | (refine Sq.guard rfl rfl (fun _ => ?_) (fun _ => ?_) <;> refine Sq.ev tab_ok rfl rfl ?_) | (refine Tr.cond rfl (fun _ => ?_) (fun _ => ?_) <;> try (rename_i h; cases h; done)) | refine Tr.block ?_ | refine Tr.skip ?_ | refine Tr.ret ⟨_, rfl, ?_⟩)
      · rename_i h
        have hlt : i < x.length := by simp only [List.length_map, decide_eq_true_eq] at h; omega
        refine Sq.index (x := strT x[i]) tab_ok rfl (by omega) (by simp [hlt]) rfl ?_
        repeat' (first | refine Tr.seq ?_ | refine Tr.region ?_ | refine Sq.ev tab_ok rfl rfl ?_ | refine Sq.nil ?_ | (refine Sq.guard rfl rfl (fun _ => ?_) (fun _ => ?_) <;> refine Sq.ev tab_ok rfl rfl ?_) | (refine Tr.cond rfl (fun _ => ?_) (fun _ => ?_) <;> try (rename_i h; cases h; done)) | refine Tr.block ?_ | refine Tr.skip ?_ | refine Tr.ret ⟨_, rfl, ?_⟩)
        refine Sq.callv rfl (refMark_ok x[i]) ?_
        repeat' (first | refine Tr.seq ?_ | refine Tr.region ?_ | refine Sq.ev tab_ok rfl rfl ?_ | refine Sq.nil ?_ | (refine Sq.guard rfl rfl (fun _ => ?_) (fun _ => ?_) <;> refine Sq.ev tab_ok rfl rfl ?_) | (refine Tr.cond rfl (fun _ => ?_) (fun _ => ?_) <;> try (rename_i h; cases h; done)) | refine Tr.block ?_ | refine Tr.skip ?_ | refine Tr.ret ⟨_, rfl, ?_⟩)
        · rename_i h
          have hb : markL x[i].data.toList = false := by simpa using h
          have : (x.all fun p => markL p.data.toList) = false := by
            rw [← Bool.not_eq_true, List.all_eq_true]
            intro h
            rw [h _ (List.getElem_mem hlt)] at hb; cases hb
          rw [this]
        · rename_i h
          have hb : markL x[i].data.toList = true := by simpa using h
          refine ⟨i + 1, ⟨by omega, ?_⟩, by omega, Sub.app (l := [_, _]) (H := []) ⟨rfl, congrArg some (wrapz (by omega) (by omega) (by omega)), trivial⟩ (fun κ v h => nomatch h)⟩
          rw [List.take_succ_eq_append_getElem hlt, List.all_append, hp]; simp [hb]
      · rename_i h
        have hge : x.length ≤ i := by simp only [List.length_map, decide_eq_false_iff_not] at h; omega
        rw [List.take_of_length_le hge] at hp
        refine Tr.exit ?_
        repeat' (first | refine Tr.seq ?_ | refine Tr.region ?_ | refine Sq.ev tab_ok rfl rfl ?_ | refine Sq.nil ?_ | (refine Sq.guard rfl rfl (fun _ => ?_) (fun _ => ?_) <;> refine Sq.ev tab_ok rfl rfl ?_) | (refine Tr.cond rfl (fun _ => ?_) (fun _ => ?_) <;> try (rename_i h; cases h; done)) | refine Tr.block ?_ | refine Tr.skip ?_ | refine Tr.ret ⟨_, rfl, ?_⟩)
        rw [hp]
theorem refRight_ok (v : Ver) (h : v.ok) : Fn Tryz.prog Gw 61 [.tr (Ver.t v)] [] (· = bool v.right) := by
  refine Fn.of tab_ok Tryz.func61 rfl (by decide) (by simp [Tryz.f61]) rfl (fun κ v h => by cases h) Gw.below ?_
  repeat' (first | refine Tr.seq ?_ | refine Tr.region ?_ | refine Sq.ev tab_ok rfl rfl ?_ | refine Sq.nil ?_ | (refine Sq.guard rfl rfl (fun _ => ?_) (fun _ => ?_) <;> refine Sq.ev tab_ok rfl rfl ?_) | (refine Tr.cond rfl (fun _ => ?_) (fun _ => ?_) <;> try (rename_i h; cases h; done)) | refine Tr.block ?_ | refine Tr.skip ?_ | refine Tr.ret ⟨_, rfl, ?_⟩)
  all_goals first | (refine Sq.callv rfl (Pre_ok v.p h) ?_) | skip
  all_goals repeat' (first | refine Tr.seq ?_ | refine Tr.region ?_ | refine Sq.ev tab_ok rfl rfl ?_ | refine Sq.nil ?_ | (refine Sq.guard rfl rfl (fun _ => ?_) (fun _ => ?_) <;> refine Sq.ev tab_ok rfl rfl ?_) | (refine Tr.cond rfl (fun _ => ?_) (fun _ => ?_) <;> try (rename_i h; cases h; done)) | refine Tr.block ?_ | refine Tr.skip ?_ | refine Tr.ret ⟨_, rfl, ?_⟩)
  all_goals
    show bool _ = bool _
    congr 3
    simp only [decide_eq_true_eq, decide_eq_false_iff_not] at *
    rw [Bool.eq_iff_iff]
    simp only [Ver.right, rightB, inN, Bool.and_eq_true, decide_eq_true_eq, Bool.false_eq_true, false_iff, iff_false, not_and]
  all_goals first | (constructor; (intro h; exact ⟨⟨by omega, by omega⟩, ⟨by omega, by omega⟩, ⟨by omega, by omega⟩, h⟩); (intro h; exact h.2.2.2)) | (intros; omega)
end Go.Lg.Tryz

set_option linter.unusedVariables false
set_option linter.unusedSimpArgs false
namespace Go.Lg.Tryz
open Go Go.Proofs Go.RowKit Go.Lib Go.Lg.Sem
theorem texts_ok (p q : ByteArray) (hp : p.size ≤ 1000000000) : Fn Tryz.prog Gw 117 [str p, str q] [] (· = int (cmpS p q)) := by
  have hz1 := data_length p
  have hz2 := data_length q
  rw [cmpS_lex]
  obtain ⟨x, hx⟩ : ∃ x, p.data.toList = x := ⟨_, rfl⟩
  obtain ⟨y, hy⟩ : ∃ y, q.data.toList = y := ⟨_, rfl⟩
  rw [hx] at hz1 ⊢
  rw [hy] at hz2 ⊢
  refine Fn.of tab_ok Tryz.func117 rfl (by decide) (by simp [Tryz.f117]) rfl (fun κ v h => by cases h) Gw.below ?_
  repeat' (first | refine Tr.seq ?_ | refine Tr.region ?_ | refine Sq.ev tab_ok rfl rfl ?_ | refine Sq.nil ?_ | (refine Sq.guard rfl rfl (fun _ => ?_) (fun _ => ?_) <;> refine Sq.ev tab_ok rfl rfl ?_) | (refine Tr.cond rfl (fun _ => ?_) (fun _ => ?_) <;> try (rename_i h; cases h; done)) | refine Tr.block ?_ | refine Tr.skip ?_ | refine Tr.ret ⟨_, rfl, ?_⟩)
  refine Tr.loopS (fun i : Nat => [(.s 0, str p), (.s 1, str q), (.s 5, int i)]) (fun i => x.length - i) (fun i => i ≤ x.length ∧ i ≤ y.length ∧ lexL cmpB x y = lexL cmpB (x.drop i) (y.drop i))
    0 ⟨by omega, by omega, by simp⟩ (Sub.app (l := [_, _, _]) (H := []) ⟨rfl, rfl, rfl, trivial⟩ (fun κ v h => nomatch h)) ?_
  rintro i ⟨hi1, hi2, hl⟩
  repeat' (first | refine Tr.seq ?_ | refine Tr.region ?_ | refine Sq.ev tab_ok rfl rfl ?_ | refine Sq.nil ?_ | (refine Sq.guard rfl rfl (fun _ => ?_) (fun _ => ?_) <;> refine Sq.ev tab_ok rfl rfl ?_) | (refine Tr.cond rfl (fun _ => ?_) (fun _ => ?_) <;> try (rename_i h; cases h; done)) | refine Tr.block ?_ | refine Tr.skip ?_ | refine Tr.ret ⟨_, rfl, ?_⟩)
  all_goals simp only [decide_eq_true_eq, decide_eq_false_iff_not] at *
  · have h1 : i < x.length := by omega
    have h2 : i < y.length := by omega
    rw [lex_step cmpB x y i h1 h2] at hl
    have b1 : p.data.toList[i]? = some x[i] := by rw [hx]; exact List.getElem?_eq_getElem h1
    have b2 : q.data.toList[i]? = some y[i] := by rw [hy]; exact List.getElem?_eq_getElem h2
    refine Tr.drawn ( DSq.ev tab_ok rfl rfl <| DSq.ev tab_ok rfl rfl <| DSq.one rfl (fun q K hK => Sq.byte (b := x[i]) tab_ok rfl (by omega) b1 (Sq.nil hK)) <| DSq.ev tab_ok rfl rfl <| DSq.ev tab_ok rfl rfl <| DSq.one rfl (fun q K hK => Sq.byte (b := y[i]) tab_ok rfl (by omega) b2 (Sq.nil hK)) <| DSq.ev tab_ok rfl rfl <| DSq.nil _) mix_ok rfl ?_
    refine Tr.cond rfl (fun h => ?_) (fun h => ?_)
    · repeat' (first | refine Tr.seq ?_ | refine Tr.region ?_ | refine Sq.ev tab_ok rfl rfl ?_ | refine Sq.nil ?_ | (refine Sq.guard rfl rfl (fun _ => ?_) (fun _ => ?_) <;> refine Sq.ev tab_ok rfl rfl ?_) | (refine Tr.cond rfl (fun _ => ?_) (fun _ => ?_) <;> try (rename_i h; cases h; done)) | refine Tr.block ?_ | refine Tr.skip ?_ | refine Tr.ret ⟨_, rfl, ?_⟩)
      refine Tr.drawn ( DSq.ev tab_ok rfl rfl <| DSq.ev tab_ok rfl rfl <| DSq.one rfl (fun q K hK => Sq.byte (b := x[i]) tab_ok rfl (by omega) b1 (Sq.nil hK)) <| DSq.ev tab_ok rfl rfl <| DSq.ev tab_ok rfl rfl <| DSq.ev tab_ok rfl rfl <| DSq.one rfl (fun q K hK => Sq.byte (b := y[i]) tab_ok rfl (by omega) b2 (Sq.nil hK)) <| DSq.ev tab_ok rfl rfl <| DSq.call rfl (fun _ => rfl) (by_ok _ _) <| DSq.ev tab_ok rfl rfl <| DSq.nil _) mix_ok rfl ?_
      repeat' (first | refine Tr.seq ?_ | refine Tr.region ?_ | refine Sq.ev tab_ok rfl rfl ?_ | refine Sq.nil ?_ | (refine Sq.guard rfl rfl (fun _ => ?_) (fun _ => ?_) <;> refine Sq.ev tab_ok rfl rfl ?_) | (refine Tr.cond rfl (fun _ => ?_) (fun _ => ?_) <;> try (rename_i h; cases h; done)) | refine Tr.block ?_ | refine Tr.skip ?_ | refine Tr.ret ⟨_, rfl, ?_⟩)
      have hne : cmpB x[i] y[i] ≠ 0 := by
        intro h0
        have := cmpI_zero.1 h0
        rw [this] at h; simp at h
      rw [hl, if_neg hne]
      have q1 := x[i].toNat_lt
      have q2 := y[i].toNat_lt
      have w1 : IntKind.i64.wrap (x[i].toNat : Int) = x[i].toNat := Go.IntWalk.i64_in _ ⟨by omega, by omega⟩
      have w2 : IntKind.i64.wrap (y[i].toNat : Int) = y[i].toNat := Go.IntWalk.i64_in _ ⟨by omega, by omega⟩
      show int (cmpI _ _) = int _
      rw [w1, w2]
      rfl
    · repeat' (first | refine Tr.seq ?_ | refine Tr.region ?_ | refine Sq.ev tab_ok rfl rfl ?_ | refine Sq.nil ?_ | (refine Sq.guard rfl rfl (fun _ => ?_) (fun _ => ?_) <;> refine Sq.ev tab_ok rfl rfl ?_) | (refine Tr.cond rfl (fun _ => ?_) (fun _ => ?_) <;> try (rename_i h; cases h; done)) | refine Tr.block ?_ | refine Tr.skip ?_ | refine Tr.ret ⟨_, rfl, ?_⟩)
      refine ⟨i + 1, ⟨by omega, by omega, ?_⟩, by omega, Sub.app (l := [_, _, _]) (H := []) ⟨rfl, rfl, congrArg some (wrapz (by omega) (by omega) (by omega)), trivial⟩ (fun κ v h => nomatch h)⟩
      have h0 : cmpB x[i] y[i] = 0 := by
        unfold cmpB; rw [cmpI_zero]; simpa using h
      rw [hl, if_pos h0]
  · refine Tr.exit ?_
    repeat' (first | refine Tr.seq ?_ | refine Tr.region ?_ | refine Sq.ev tab_ok rfl rfl ?_ | refine Sq.nil ?_ | (refine Sq.guard rfl rfl (fun _ => ?_) (fun _ => ?_) <;> refine Sq.ev tab_ok rfl rfl ?_) | (refine Tr.cond rfl (fun _ => ?_) (fun _ => ?_) <;> try (rename_i h; cases h; done)) | refine Tr.block ?_ | refine Tr.skip ?_ | refine Tr.ret ⟨_, rfl, ?_⟩)
    refine Sq.callv rfl (by_ok p.size q.size) ?_
    repeat' (first | refine Tr.seq ?_ | refine Tr.region ?_ | refine Sq.ev tab_ok rfl rfl ?_ | refine Sq.nil ?_ | (refine Sq.guard rfl rfl (fun _ => ?_) (fun _ => ?_) <;> refine Sq.ev tab_ok rfl rfl ?_) | (refine Tr.cond rfl (fun _ => ?_) (fun _ => ?_) <;> try (rename_i h; cases h; done)) | refine Tr.block ?_ | refine Tr.skip ?_ | refine Tr.ret ⟨_, rfl, ?_⟩)
    rw [hl, lex_end cmpB x y i hi1 hi2 (by omega), hz1, hz2]
  · refine Tr.exit ?_
    repeat' (first | refine Tr.seq ?_ | refine Tr.region ?_ | refine Sq.ev tab_ok rfl rfl ?_ | refine Sq.nil ?_ | (refine Sq.guard rfl rfl (fun _ => ?_) (fun _ => ?_) <;> refine Sq.ev tab_ok rfl rfl ?_) | (refine Tr.cond rfl (fun _ => ?_) (fun _ => ?_) <;> try (rename_i h; cases h; done)) | refine Tr.block ?_ | refine Tr.skip ?_ | refine Tr.ret ⟨_, rfl, ?_⟩)
    refine Sq.callv rfl (by_ok p.size q.size) ?_
    repeat' (first | refine Tr.seq ?_ | refine Tr.region ?_ | refine Sq.ev tab_ok rfl rfl ?_ | refine Sq.nil ?_ | (refine Sq.guard rfl rfl (fun _ => ?_) (fun _ => ?_) <;> refine Sq.ev tab_ok rfl rfl ?_) | (refine Tr.cond rfl (fun _ => ?_) (fun _ => ?_) <;> try (rename_i h; cases h; done)) | refine Tr.block ?_ | refine Tr.skip ?_ | refine Tr.ret ⟨_, rfl, ?_⟩)
    rw [hl, lex_end cmpB x y i hi1 hi2 (by omega), hz1, hz2]
set_option maxRecDepth 4096 in
theorem refMarks_ok (p q : ByteArray) (hp : p.size ≤ 1000000000) : Fn Tryz.prog Gw 87 [str p, str q] [] (· = int (cmpM p q)) := by
  have ex : cmpM p q = if numP p = true then (if numP q = true then cmpI (valP p) (valP q) else -1) else if numP q = true then 1 else cmpS p q := rfl
  rw [ex]
  have n1 := Number_ok p
  have n2 := Number_ok q
  cases h1 : numP p <;> cases h2 : numP q
  all_goals (first | rw [numO_f h1] at n1 | rw [numO_t h1] at n1); (first | rw [numO_f h2] at n2 | rw [numO_t h2] at n2)
  all_goals
    refine Fn.of tab_ok Tryz.func87 rfl (by decide) (by simp [Tryz.f87]) rfl (fun κ v h => by cases h) Gw.below ?_
    repeat' (first | refine Tr.seq ?_ | refine Tr.region ?_ | refine Sq.ev tab_ok rfl rfl ?_ | refine Sq.nil ?_ | (refine Sq.guard rfl rfl (fun _ => ?_) (fun _ => ?_) <;> refine Sq.ev tab_ok rfl rfl ?_) | (refine Tr.cond rfl (fun _ => ?_) (fun _ => ?_) <;> try (rename_i h; cases h; done)) | refine Tr.block ?_ | refine Tr.skip ?_ | refine Tr.ret ⟨_, rfl, ?_⟩)
    refine Sq.callv rfl n1 ?_
    repeat' (first | refine Tr.seq ?_ | refine Tr.region ?_ | refine Sq.ev tab_ok rfl rfl ?_ | refine Sq.nil ?_ | (refine Sq.guard rfl rfl (fun _ => ?_) (fun _ => ?_) <;> refine Sq.ev tab_ok rfl rfl ?_) | (refine Tr.cond rfl (fun _ => ?_) (fun _ => ?_) <;> try (rename_i h; cases h; done)) | refine Tr.block ?_ | refine Tr.skip ?_ | refine Tr.ret ⟨_, rfl, ?_⟩)
    refine Sq.callv rfl n2 ?_
    repeat' (first | refine Tr.seq ?_ | refine Tr.region ?_ | refine Sq.ev tab_ok rfl rfl ?_ | refine Sq.nil ?_ | (refine Sq.guard rfl rfl (fun _ => ?_) (fun _ => ?_) <;> refine Sq.ev tab_ok rfl rfl ?_) | (refine Tr.cond rfl (fun _ => ?_) (fun _ => ?_) <;> try (rename_i h; cases h; done)) | refine Tr.block ?_ | refine Tr.skip ?_ | refine Tr.ret ⟨_, rfl, ?_⟩)
  all_goals first | (refine Sq.callv rfl (by_ok (valP p) (valP q)) ?_) | (refine Sq.callv rfl (texts_ok p q hp) ?_) | skip
  all_goals repeat' (first | refine Tr.seq ?_ | refine Tr.region ?_ | refine Sq.ev tab_ok rfl rfl ?_ | refine Sq.nil ?_ | (refine Sq.guard rfl rfl (fun _ => ?_) (fun _ => ?_) <;> refine Sq.ev tab_ok rfl rfl ?_) | (refine Tr.cond rfl (fun _ => ?_) (fun _ => ?_) <;> try (rename_i h; cases h; done)) | refine Tr.block ?_ | refine Tr.skip ?_ | refine Tr.ret ⟨_, rfl, ?_⟩)
  all_goals rfl
set_option maxRecDepth 8192 in
theorem refCompare_ok (v u : Ver) (hv : v.ok) (hu : u.ok) : Fn Tryz.prog Gw 62 [.tr (Ver.t v), .tr (Ver.t u)] [] (· = int (cmpVer v u)) := by
  refine Fn.of tab_ok Tryz.func62 rfl (by decide) (by simp [Tryz.f62]) rfl (fun κ v h => by cases h) Gw.below ?_
  repeat' (first | refine Tr.seq ?_ | refine Tr.region ?_ | refine Sq.ev tab_ok rfl rfl ?_ | refine Sq.nil ?_ | (refine Sq.guard rfl rfl (fun _ => ?_) (fun _ => ?_) <;> refine Sq.ev tab_ok rfl rfl ?_) | (refine Tr.cond rfl (fun _ => ?_) (fun _ => ?_) <;> try (rename_i h; cases h; done)) | refine Tr.block ?_ | refine Tr.skip ?_ | refine Tr.ret ⟨_, rfl, ?_⟩)
  refine Sq.callv rfl (by_ok v.a u.a) ?_
  repeat' (first | refine Tr.seq ?_ | refine Tr.region ?_ | refine Sq.ev tab_ok rfl rfl ?_ | refine Sq.nil ?_ | (refine Sq.guard rfl rfl (fun _ => ?_) (fun _ => ?_) <;> refine Sq.ev tab_ok rfl rfl ?_) | (refine Tr.cond rfl (fun _ => ?_) (fun _ => ?_) <;> try (rename_i h; cases h; done)) | refine Tr.block ?_ | refine Tr.skip ?_ | refine Tr.ret ⟨_, rfl, ?_⟩)
  all_goals first | (refine Sq.callv rfl (by_ok v.b u.b) ?_) | skip
  all_goals repeat' (first | refine Tr.seq ?_ | refine Tr.region ?_ | refine Sq.ev tab_ok rfl rfl ?_ | refine Sq.nil ?_ | (refine Sq.guard rfl rfl (fun _ => ?_) (fun _ => ?_) <;> refine Sq.ev tab_ok rfl rfl ?_) | (refine Tr.cond rfl (fun _ => ?_) (fun _ => ?_) <;> try (rename_i h; cases h; done)) | refine Tr.block ?_ | refine Tr.skip ?_ | refine Tr.ret ⟨_, rfl, ?_⟩)
  all_goals first | (refine Sq.callv rfl (by_ok v.c u.c) ?_) | skip
  all_goals repeat' (first | refine Tr.seq ?_ | refine Tr.region ?_ | refine Sq.ev tab_ok rfl rfl ?_ | refine Sq.nil ?_ | (refine Sq.guard rfl rfl (fun _ => ?_) (fun _ => ?_) <;> refine Sq.ev tab_ok rfl rfl ?_) | (refine Tr.cond rfl (fun _ => ?_) (fun _ => ?_) <;> try (rename_i h; cases h; done)) | refine Tr.block ?_ | refine Tr.skip ?_ | refine Tr.ret ⟨_, rfl, ?_⟩)
  all_goals simp only [beq_iff_eq, beq_eq_false_iff_ne, bne_iff_ne, bne_eq_false_iff_eq, ba_toList] at *
  all_goals first | (exfalso; omega) | skip
  all_goals first
    | (show int _ = int _
       congr 3
       rw [cmpVer_eq]
       simp_all
       done)
    | skip
  all_goals
    have ev : cmpVer v u = marksV v.p u.p := by rw [cmpVer_eq]; simp only [*, if_true]
    rw [ev]
    have zv := data_length v.p
    have zu := data_length u.p
  · rename_i h
    rw [bytes_ext h, ordP.self _ trivial]
    show int _ = int 0
    simp only [*]
  · rename_i h1 h2
    have : ¬ u.p.size = 0 := by
      rw [← zu, List.length_eq_zero_iff]; intro h; rw [h2, h] at h1; exact h1 rfl
    rw [marksV_lex, if_pos (.inl (by rw [ba_toList]; exact h2)), show v.p.size = 0 by rw [← zv, h2]; rfl]
    show int 1 = int (cmpI _ _)
    congr 3
    unfold cmpI
    rw [if_neg (by omega), if_pos (by omega)]
  · rename_i h1 h2
    have : ¬ v.p.size = 0 := by
      rw [← zv, List.length_eq_zero_iff]; exact h1
    rw [marksV_lex, if_pos (.inr (by rw [ba_toList]; exact h2)), show u.p.size = 0 by rw [← zu, h2]; rfl]
    show int (-1) = int (cmpI _ _)
    congr 3
    unfold cmpI
    rw [if_pos (by omega)]
  · rename_i h1 h2
    rw [marksV_lex, if_neg (by rw [ba_toList, ba_toList]; rintro (h | h); exact h1 h; exact h2 h)]
    have lx := pieces_len v.p
    have ly := pieces_len u.p
    have sx := pieces_size v.p
    have c1 := cut_dot v.p hv
    have c2 := cut_dot u.p hu
    have hv1 : v.p.size ≤ 1000000000 := hv
    have hu1 : u.p.size ≤ 1000000000 := hu
    generalize pieces dot v.p = x at *
    generalize pieces dot u.p = y at *
    refine Sq.callv rfl (c1) ?_
    repeat' (first | refine Tr.seq ?_ | refine Tr.region ?_ | refine Sq.ev tab_ok rfl rfl ?_ | refine Sq.nil ?_ | (refine Sq.guard rfl rfl (fun _ => ?_) (fun _ => ?_) <;> refine Sq.ev tab_ok rfl rfl ?_) | (refine Tr.cond rfl (fun _ => ?_) (fun _ => ?_) <;> try (rename_i h; cases h; done)) | refine Tr.block ?_ | refine Tr.skip ?_ | refine Tr.ret ⟨_, rfl, ?_⟩)
    refine Sq.callv rfl (c2) ?_
    repeat' (first | refine Tr.seq ?_ | refine Tr.region ?_ | refine Sq.ev tab_ok rfl rfl ?_ | refine Sq.nil ?_ | (refine Sq.guard rfl rfl (fun _ => ?_) (fun _ => ?_) <;> refine Sq.ev tab_ok rfl rfl ?_) | (refine Tr.cond rfl (fun _ => ?_) (fun _ => ?_) <;> try (rename_i h; cases h; done)) | refine Tr.block ?_ | refine Tr.skip ?_ | refine Tr.ret ⟨_, rfl, ?_⟩)
    refine Tr.loopS (ι := Nat × Int) (fun i => [(.s 6, .own 9 (x.map strT)), (.s 7, .own 9 (y.map strT)), (.s 8, int i.1), (.s 5, int i.2)]) (fun i => x.length - i.1) (fun i => i.1 ≤ x.length ∧ i.1 ≤ y.length ∧ lexL cmpM x y = lexL cmpM (x.drop i.1) (y.drop i.1))
      (0, _) ⟨Nat.zero_le _, Nat.zero_le _, by simp⟩ (Sub.app (l := [_, _, _, _]) (H := []) ⟨rfl, rfl, rfl, rfl, trivial⟩ (fun κ v h => nomatch h)) ?_
    rintro ⟨i, e⟩ ⟨hi1, hi2, hl⟩
    simp only at hi1 hi2 hl ⊢
    repeat' (first | refine Tr.seq ?_ | refine Tr.region ?_ | refine Sq.ev tab_ok rfl rfl ?_ | refine Sq.nil ?_ | (refine Sq.guard rfl rfl (fun _ => ?_) (fun _ => ?_) <;> refine Sq.ev tab_ok rfl rfl ?_) | (refine Tr.cond rfl (fun _ => ?_) (fun _ => ?_) <;> try (rename_i h; cases h; done)) | refine Tr.block ?_ | refine Tr.skip ?_ | refine Tr.ret ⟨_, rfl, ?_⟩)
    all_goals simp only [decide_eq_true_eq, decide_eq_false_iff_not, List.length_map] at *
    · have h1 : i < x.length := by omega
      have h2 : i < y.length := by omega
      rw [lex_step cmpM x y i h1 h2] at hl
      refine Tr.drawn ( DSq.ev tab_ok rfl rfl <| DSq.ev tab_ok rfl rfl <| DSq.one rfl (fun q K hK => Sq.index (x := strT x[i]) tab_ok rfl (by omega) (by simp [h1]) rfl (Sq.nil hK)) <| DSq.ev tab_ok rfl rfl <| DSq.ev tab_ok rfl rfl <| DSq.ev tab_ok rfl rfl <| DSq.one rfl (fun q K hK => Sq.index (x := strT y[i]) tab_ok rfl (by omega) (by simp [h2]) rfl (Sq.nil hK)) <| DSq.ev tab_ok rfl rfl <| DSq.call rfl (fun _ => rfl) (refMarks_ok x[i] y[i] (Nat.le_trans (sx _ (List.getElem_mem h1)) hv1)) <| DSq.ev tab_ok rfl rfl <| DSq.nil _) mix_ok rfl ?_
      repeat' (first | refine Tr.seq ?_ | refine Tr.region ?_ | refine Sq.ev tab_ok rfl rfl ?_ | refine Sq.nil ?_ | (refine Sq.guard rfl rfl (fun _ => ?_) (fun _ => ?_) <;> refine Sq.ev tab_ok rfl rfl ?_) | (refine Tr.cond rfl (fun _ => ?_) (fun _ => ?_) <;> try (rename_i h; cases h; done)) | refine Tr.block ?_ | refine Tr.skip ?_ | refine Tr.ret ⟨_, rfl, ?_⟩)
      all_goals rename_i h
      all_goals simp only [bne_iff_ne, bne_eq_false_iff_eq] at h
      · rw [hl, if_neg h]
      · exact ⟨(i + 1, _), ⟨by show i + 1 ≤ _; omega, by show i + 1 ≤ _; omega, by rw [hl, if_pos h]⟩, by show x.length - (i + 1) < x.length - i; omega, Sub.app (l := [_, _, _, _]) (H := []) ⟨rfl, rfl, congrArg some (wrapz (by simp only; omega) (by simp only; omega) (by simp only; omega)), rfl, trivial⟩ (fun κ v h => nomatch h)⟩
    all_goals
      refine Tr.exit ?_
      repeat' (first | refine Tr.seq ?_ | refine Tr.region ?_ | refine Sq.ev tab_ok rfl rfl ?_ | refine Sq.nil ?_ | (refine Sq.guard rfl rfl (fun _ => ?_) (fun _ => ?_) <;> refine Sq.ev tab_ok rfl rfl ?_) | (refine Tr.cond rfl (fun _ => ?_) (fun _ => ?_) <;> try (rename_i h; cases h; done)) | refine Tr.block ?_ | refine Tr.skip ?_ | refine Tr.ret ⟨_, rfl, ?_⟩)
      refine Sq.callv rfl (by_ok (x.map strT).length (y.map strT).length) ?_
      repeat' (first | refine Tr.seq ?_ | refine Tr.region ?_ | refine Sq.ev tab_ok rfl rfl ?_ | refine Sq.nil ?_ | (refine Sq.guard rfl rfl (fun _ => ?_) (fun _ => ?_) <;> refine Sq.ev tab_ok rfl rfl ?_) | (refine Tr.cond rfl (fun _ => ?_) (fun _ => ?_) <;> try (rename_i h; cases h; done)) | refine Tr.block ?_ | refine Tr.skip ?_ | refine Tr.ret ⟨_, rfl, ?_⟩)
      rw [hl, lex_end cmpM x y i hi1 hi2 (by omega), List.length_map, List.length_map]
end Go.Lg.Tryz

set_option linter.unusedVariables false
set_option linter.unusedSimpArgs false
namespace Go.Lg.Tryz
open Go Go.Proofs Go.RowKit Go.Lib Go.Lg.Sem
theorem refUp_ok (u : Cmp) : (refUpW u).ok := by
  unfold refUpW
  (repeat' split) <;> (show (ByteArray.mk #[]).size ≤ 1000000000; decide)
theorem refUpper_ok (c : Cmp) (hr : c.v.right = true) : Fn Tryz.prog Gw 121 [.tr (Cmp.t c)] [] (· = .tup [.tr (Ver.t (refUpV c).1), bool (refUpV c).2]) := by
  obtain ⟨⟨a0, a1⟩, ⟨b0, b1⟩, ⟨c0, c1⟩, hp⟩ := right_parts hr
  have wa : IntKind.i64.wrap (c.v.a + 1) = c.v.a + 1 := Go.IntWalk.i64_in _ ⟨by omega, by omega⟩
  have wb : IntKind.i64.wrap (c.v.b + 1) = c.v.b + 1 := Go.IntWalk.i64_in _ ⟨by omega, by omega⟩
  have wc : IntKind.i64.wrap (c.v.c + 1) = c.v.c + 1 := Go.IntWalk.i64_in _ ⟨by omega, by omega⟩
  refine Fn.of tab_ok Tryz.func121 rfl (by decide) (by simp [Tryz.f121]) rfl (fun κ v h => by cases h) Gw.below ?_
  repeat' (first | refine Tr.seq ?_ | refine Tr.region ?_ | refine Sq.ev tab_ok rfl rfl ?_ | refine Sq.nil ?_ | (refine Sq.guard rfl rfl (fun _ => ?_) (fun _ => ?_) <;> refine Sq.ev tab_ok rfl rfl ?_) | (refine Tr.cond rfl (fun _ => ?_) (fun _ => ?_) <;> try (rename_i h; cases h; done)) | refine Tr.block ?_ | refine Tr.skip ?_ | refine Tr.ret ⟨_, rfl, ?_⟩)
  all_goals simp only [beq_iff_eq, beq_eq_false_iff_ne, decide_eq_true_eq, decide_eq_false_iff_not] at *
  all_goals first
    | (refine Tr.drawn ( DSq.ev tab_ok rfl rfl <| DSq.ev tab_ok rfl rfl <| DSq.call rfl (fun _ => rfl) (refRight_ok ⟨IntKind.i64.wrap (c.v.a + 1), 0, 0, ⟨#[]⟩⟩ (ok_nil _ _ _)) <| DSq.ev tab_ok rfl rfl <| DSq.ev tab_ok rfl rfl <| DSq.nil _) mix_ok rfl ?_)
    | (refine Tr.drawn ( DSq.ev tab_ok rfl rfl <| DSq.ev tab_ok rfl rfl <| DSq.call rfl (fun _ => rfl) (refRight_ok ⟨0, 0, IntKind.i64.wrap (c.v.c + 1), ⟨#[]⟩⟩ (ok_nil _ _ _)) <| DSq.ev tab_ok rfl rfl <| DSq.ev tab_ok rfl rfl <| DSq.nil _) mix_ok rfl ?_)
    | (refine Tr.drawn ( DSq.ev tab_ok rfl rfl <| DSq.ev tab_ok rfl rfl <| DSq.call rfl (fun _ => rfl) (refRight_ok ⟨c.v.a, IntKind.i64.wrap (c.v.b + 1), 0, ⟨#[]⟩⟩ (ok_nil _ _ _)) <| DSq.ev tab_ok rfl rfl <| DSq.ev tab_ok rfl rfl <| DSq.nil _) mix_ok rfl ?_)
  all_goals repeat' (first | refine Tr.seq ?_ | refine Tr.region ?_ | refine Sq.ev tab_ok rfl rfl ?_ | refine Sq.nil ?_ | (refine Sq.guard rfl rfl (fun _ => ?_) (fun _ => ?_) <;> refine Sq.ev tab_ok rfl rfl ?_) | (refine Tr.cond rfl (fun _ => ?_) (fun _ => ?_) <;> try (rename_i h; cases h; done)) | refine Tr.block ?_ | refine Tr.skip ?_ | refine Tr.ret ⟨_, rfl, ?_⟩)
  all_goals
    show AV.tup _ = AV.tup _
    simp only [wa, wb, wc]
  all_goals first
    | (rw [show refUpV c = (⟨c.v.a + 1, 0, 0, ⟨#[]⟩⟩, Ver.right ⟨c.v.a + 1, 0, 0, ⟨#[]⟩⟩) by unfold refUpV refUpW; have e1 : c.op = 6 ∧ c.v.a > 0 := ⟨by assumption, by assumption⟩; rw [if_pos e1]])
    | (rw [show refUpV c = (⟨0, 0, c.v.c + 1, ⟨#[]⟩⟩, Ver.right ⟨0, 0, c.v.c + 1, ⟨#[]⟩⟩) by
        unfold refUpV refUpW
        have e1 : ¬ (c.op = 6 ∧ c.v.a > 0) := by omega
        have e2 : c.op = 6 ∧ c.v.b = 0 := ⟨by assumption, by assumption⟩
        rw [if_neg e1, if_pos e2]])
    | (rw [show refUpV c = (⟨c.v.a, c.v.b + 1, 0, ⟨#[]⟩⟩, Ver.right ⟨c.v.a, c.v.b + 1, 0, ⟨#[]⟩⟩) by
        unfold refUpV refUpW
        have e1 : ¬ (c.op = 6 ∧ c.v.a > 0) := by omega
        have e2 : ¬ (c.op = 6 ∧ c.v.b = 0) := by omega
        rw [if_neg e1, if_neg e2]])
theorem one_ok (c : Cmp) (v : Ver) (hc : c.ok) (hv : v.ok) (hr : cmpRight c = true) : Fn Tryz.prog Gw 95 [.tr (Cmp.t c), .tr (Ver.t v)] [] (· = bool (hasC c v)) := by
  have hz : c.op ≠ 0 → c.v.right = true := fun h => by
    unfold cmpRight at hr
    rw [if_neg h] at hr
    simp only [Bool.and_eq_true] at hr
    exact hr.2.2
  refine Fn.of tab_ok Tryz.func95 rfl (by decide) (by simp [Tryz.f95]) rfl (fun κ v h => by cases h) Gw.below ?_
  repeat' (first | refine Tr.seq ?_ | refine Tr.region ?_ | refine Sq.ev tab_ok rfl rfl ?_ | refine Sq.nil ?_ | (refine Sq.guard rfl rfl (fun _ => ?_) (fun _ => ?_) <;> refine Sq.ev tab_ok rfl rfl ?_) | (refine Tr.cond rfl (fun _ => ?_) (fun _ => ?_) <;> try (rename_i h; cases h; done)) | refine Tr.block ?_ | refine Tr.skip ?_ | refine Tr.ret ⟨_, rfl, ?_⟩)
  refine Sq.callv rfl (refCompare_ok v c.v hv hc) ?_
  repeat' (first | refine Tr.seq ?_ | refine Tr.region ?_ | refine Sq.ev tab_ok rfl rfl ?_ | refine Sq.nil ?_ | (refine Sq.guard rfl rfl (fun _ => ?_) (fun _ => ?_) <;> refine Sq.ev tab_ok rfl rfl ?_) | (refine Tr.cond rfl (fun _ => ?_) (fun _ => ?_) <;> try (rename_i h; cases h; done)) | refine Tr.block ?_ | refine Tr.skip ?_ | refine Tr.ret ⟨_, rfl, ?_⟩)
  all_goals first
    | (show bool _ = bool _
       congr 3
       simp_all [hasC]
       done)
    | skip
  all_goals first
    | (show bool _ = bool _
       congr 3
       simp_all [hasC]
       omega)
    | skip
  all_goals
    have h67 : c.op = 6 ∨ c.op = 7 := by simp only [beq_iff_eq] at *; omega
    have h0 : c.v.right = true := hz (by omega)
    obtain ⟨u1, u2⟩ := refUp_eq c h0 h67
    refine Sq.callv rfl (refUpper_ok c h0) ?_
    repeat' (first | refine Tr.seq ?_ | refine Tr.region ?_ | refine Sq.ev tab_ok rfl rfl ?_ | refine Sq.nil ?_ | (refine Sq.guard rfl rfl (fun _ => ?_) (fun _ => ?_) <;> refine Sq.ev tab_ok rfl rfl ?_) | (refine Tr.cond rfl (fun _ => ?_) (fun _ => ?_) <;> try (rename_i h; cases h; done)) | refine Tr.block ?_ | refine Tr.skip ?_ | refine Tr.ret ⟨_, rfl, ?_⟩)
  all_goals first | (refine Sq.callv rfl (refCompare_ok v (refUpV c).1 hv (refUp_ok c)) ?_) | skip
  all_goals repeat' (first | refine Tr.seq ?_ | refine Tr.region ?_ | refine Sq.ev tab_ok rfl rfl ?_ | refine Sq.nil ?_ | (refine Sq.guard rfl rfl (fun _ => ?_) (fun _ => ?_) <;> refine Sq.ev tab_ok rfl rfl ?_) | (refine Tr.cond rfl (fun _ => ?_) (fun _ => ?_) <;> try (rename_i h; cases h; done)) | refine Tr.block ?_ | refine Tr.skip ?_ | refine Tr.ret ⟨_, rfl, ?_⟩)
  all_goals
    have hh : hasC c v = (decide (cmpVer v c.v ≥ 0) && (!(upperV c).2 || decide (cmpVer v (upperV c).1 < 0))) := by
      unfold hasC
      rw [if_neg (by omega), if_neg (by omega), if_neg (by omega), if_neg (by omega), if_neg (by omega), if_pos h67]
    rw [hh, u1]
    show bool _ = bool _
    congr 3
    simp only [Bool.not_eq_true', Bool.not_eq_false', decide_eq_true_eq, decide_eq_false_iff_not] at *
  · rename_i h1 h2
    rw [h2, decide_eq_true (by omega : cmpVer v c.v ≥ 0)]; rfl
  · rename_i h1 h2
    rw [h2, u2 (by rw [u1]; exact h2), decide_eq_true (by omega : cmpVer v c.v ≥ 0)]; rfl
  · rename_i h1
    rw [decide_eq_false (by omega : ¬ cmpVer v c.v ≥ 0)]; rfl
  · rename_i h1 h2
    rw [h2, decide_eq_true (by omega : cmpVer v c.v ≥ 0)]; rfl
  · rename_i h1 h2
    rw [h2, u2 (by rw [u1]; exact h2), decide_eq_true (by omega : cmpVer v c.v ≥ 0)]; rfl
  · rename_i h1
    rw [decide_eq_false (by omega : ¬ cmpVer v c.v ≥ 0)]; rfl
end Go.Lg.Tryz

set_option linter.unusedVariables false
set_option linter.unusedSimpArgs false
namespace Go.Lg.Tryz
open Go Go.Proofs Go.RowKit Go.Lib Go.Lg.Sem
theorem eqA_rver (d : Nat) (w : World) (x0 y0 : Int) (x1 y1 : Int) (x2 y2 : Int) (x3 y3 : ByteArray) :
    (Op.equalIn (d + 2) 87 (.agg #[.int .i64 x0, .int .i64 x1, .int .i64 x2, .string x3]) (.agg #[.int .i64 y0, .int .i64 y1, .int .i64 y2, .string y3])).run Tryz.prog w = .ok (x0 == y0 && (x1 == y1 && (x2 == y2 && (x3.toList == y3.toList)))) w := by
  refine eqA_of Tryz.underlying87 (by kernel_rfl) ?_
  refine eqf_cons (by rfl) (by go_simp; rfl) (by go_simp; rfl) (by go_simp) ?_
  refine eqf_cons (by rfl) (by go_simp; rfl) (by go_simp; rfl) (by go_simp) ?_
  refine eqf_cons (by rfl) (by go_simp; rfl) (by go_simp; rfl) (by go_simp) ?_
  exact eqf_last (by rfl) (by go_simp; rfl) (by go_simp; rfl) (by go_simp)
def rngP (l : List Cmp) : Bool := sizedB l.length && l.all cmpRight
theorem rngRight_eq (r : Rng) : rngRight r = (r.all rngP && sizedB r.length) := rfl
theorem cmpRight_z {c : Cmp} (h : c.op = 0) : cmpRight c = cmpIsZero c := by unfold cmpRight; rw [if_pos h]
theorem cmpRight_n {c : Cmp} (h : c.op ≠ 0) : cmpRight c = (decide (c.op > 0) && (decide (c.op ≤ 7) && c.v.right)) := by unfold cmpRight; rw [if_neg h]
theorem refRngRight_ok (r : Rng) (hr : r.ok) (hn : r.length ≤ 1073741824) : Fn Tryz.prog Gw 63 [.tr (rngT r)] [] (· = bool (rngRight r)) := by
  refine Fn.of tab_ok Tryz.func63 rfl (by decide) (by simp [Tryz.f63]) rfl (fun κ v h => by cases h) Gw.below ?_
  repeat' (first | refine Tr.seq ?_ | refine Tr.region ?_ | refine Sq.ev tab_ok rfl rfl ?_ | refine Sq.nil ?_ | (refine Sq.guard rfl rfl (fun _ => ?_) (fun _ => ?_) <;> refine Sq.ev tab_ok rfl rfl ?_) | (refine Tr.cond rfl (fun _ => ?_) (fun _ => ?_) <;> try (rename_i h; cases h; done)) | refine Tr.block ?_ | refine Tr.skip ?_ | refine Tr.ret ⟨_, rfl, ?_⟩)
  · rename_i h _
    have : sizedB r.length = false := by simp only [List.length_map, decide_eq_true_eq] at h; simp [sizedB]; omega
    rw [rngRight_eq, this, Bool.and_false]
  · rename_i h
    have : sizedB r.length = false := by simp only [List.length_map, decide_eq_true_eq] at h; simp [sizedB]; omega
    rw [rngRight_eq, this, Bool.and_false]
  · rename_i h1 h2
    have hs : sizedB r.length = true := by simp only [List.length_map, decide_eq_false_iff_not] at h1 h2; simp [sizedB]; omega
    rw [rngRight_eq, hs, Bool.and_true]
    refine Tr.loopS (fun i : Nat => [(.s 1, .ptr (.l 1) 0), (.l 1, .blk 93 [.tr (.ls (r.map cmpsT))]), (.s 3, int i)]) (fun i => r.length - i) (fun i => i ≤ r.length ∧ (r.take i).all rngP = true)
      0 ⟨by omega, by simp⟩ (Sub.app (l := [_, _, _]) (H := []) ⟨rfl, rfl, rfl, trivial⟩ (fun κ v h => nomatch h)) ?_
    rintro i ⟨hi, hp⟩
    repeat' (first | refine Tr.seq ?_ | refine Tr.region ?_ | refine Sq.ev tab_ok rfl rfl ?_ | refine Sq.nil ?_ | (refine Sq.guard rfl rfl (fun _ => ?_) (fun _ => ?_) <;> refine Sq.ev tab_ok rfl rfl ?_) | (refine Tr.cond rfl (fun _ => ?_) (fun _ => ?_) <;> try (rename_i h; cases h; done)) | refine Tr.block ?_ | refine Tr.skip ?_ | refine Tr.ret ⟨_, rfl, ?_⟩)
    · rename_i h
      have hlt : i < r.length := by simp only [List.length_map, decide_eq_true_eq] at h; omega
      obtain ⟨hl1, hl2⟩ := hr r[i] (List.getElem_mem hlt)
      have bad : rngP r[i] = false → r.all rngP = false := fun hb => by
        rw [← Bool.not_eq_true, List.all_eq_true]
        intro h
        rw [h _ (List.getElem_mem hlt)] at hb; cases hb
      obtain ⟨l, hl⟩ : ∃ l, r[i] = l := ⟨_, rfl⟩
      have he : (r.map cmpsT)[i]? = some (cmpsT l) := by rw [List.getElem?_map, List.getElem?_eq_getElem hlt, hl]; rfl
      rw [hl] at hl1 hl2 bad
      refine Sq.index (x := cmpsT l) tab_ok rfl (by omega) (by simpa using he) rfl ?_
      repeat' (first | refine Tr.seq ?_ | refine Tr.region ?_ | refine Sq.ev tab_ok rfl rfl ?_ | refine Sq.nil ?_ | (refine Sq.guard rfl rfl (fun _ => ?_) (fun _ => ?_) <;> refine Sq.ev tab_ok rfl rfl ?_) | (refine Tr.cond rfl (fun _ => ?_) (fun _ => ?_) <;> try (rename_i h; cases h; done)) | refine Tr.block ?_ | refine Tr.skip ?_ | refine Tr.ret ⟨_, rfl, ?_⟩)
      all_goals first | (refine Sq.index (x := cmpsT l) tab_ok rfl (by omega) (by simpa using he) rfl ?_) | skip
      all_goals repeat' (first | refine Tr.seq ?_ | refine Tr.region ?_ | refine Sq.ev tab_ok rfl rfl ?_ | refine Sq.nil ?_ | (refine Sq.guard rfl rfl (fun _ => ?_) (fun _ => ?_) <;> refine Sq.ev tab_ok rfl rfl ?_) | (refine Tr.cond rfl (fun _ => ?_) (fun _ => ?_) <;> try (rename_i h; cases h; done)) | refine Tr.block ?_ | refine Tr.skip ?_ | refine Tr.ret ⟨_, rfl, ?_⟩)
      · rename_i h _
        rw [bad (by simp only [List.length_map, decide_eq_true_eq] at h; unfold rngP; rw [show sizedB (l.length : Int) = false by simp [sizedB]; omega, Bool.false_and])]
      · rename_i h
        rw [bad (by simp only [List.length_map, decide_eq_true_eq] at h; unfold rngP; rw [show sizedB (l.length : Int) = false by simp [sizedB]; omega, Bool.false_and])]
      · rename_i h3 h4
        have hs2 : sizedB l.length = true := by simp only [List.length_map, decide_eq_false_iff_not] at h3 h4; simp [sizedB]; omega
        have ep : rngP l = l.all cmpRight := by unfold rngP; rw [hs2, Bool.true_and]
        refine Tr.loopS (fun k : Nat => [(.s 1, .ptr (.l 1) 0), (.l 1, .blk 93 [.tr (.ls (r.map cmpsT))]), (.s 3, int i), (.s 4, int k)]) (fun k => l.length - k) (fun k => k ≤ l.length ∧ (l.take k).all cmpRight = true)
          0 ⟨by omega, by simp⟩ (Sub.app (l := [_, _, _, _]) (H := []) ⟨rfl, rfl, rfl, rfl, trivial⟩ (fun κ v h => nomatch h)) ?_
        rintro k ⟨hk, hq⟩
        repeat' (first | refine Tr.seq ?_ | refine Tr.region ?_ | refine Sq.ev tab_ok rfl rfl ?_ | refine Sq.nil ?_ | (refine Sq.guard rfl rfl (fun _ => ?_) (fun _ => ?_) <;> refine Sq.ev tab_ok rfl rfl ?_) | (refine Tr.cond rfl (fun _ => ?_) (fun _ => ?_) <;> try (rename_i h; cases h; done)) | refine Tr.block ?_ | refine Tr.skip ?_ | refine Tr.ret ⟨_, rfl, ?_⟩)
        refine Sq.index (x := cmpsT l) tab_ok rfl (by omega) (by simpa using he) rfl ?_
        repeat' (first | refine Tr.seq ?_ | refine Tr.region ?_ | refine Sq.ev tab_ok rfl rfl ?_ | refine Sq.nil ?_ | (refine Sq.guard rfl rfl (fun _ => ?_) (fun _ => ?_) <;> refine Sq.ev tab_ok rfl rfl ?_) | (refine Tr.cond rfl (fun _ => ?_) (fun _ => ?_) <;> try (rename_i h; cases h; done)) | refine Tr.block ?_ | refine Tr.skip ?_ | refine Tr.ret ⟨_, rfl, ?_⟩)
        · rename_i h5
          have hk2 : k < l.length := by simp only [List.length_map, decide_eq_true_eq] at h5; omega
          obtain ⟨c, hc⟩ : ∃ c, l[k] = c := ⟨_, rfl⟩
          have hcm : c ∈ l := hc ▸ List.getElem_mem hk2
          have hce : (l.map Cmp.t)[k]? = some (Cmp.t c) := by rw [List.getElem?_map, List.getElem?_eq_getElem hk2, hc]; rfl
          have bad2 : cmpRight c = false → r.all rngP = false := fun hb => bad (by
            rw [ep, ← Bool.not_eq_true, List.all_eq_true]
            intro h
            rw [h _ hcm] at hb; cases hb)
          have good : cmpRight c = true → (l.take (k + 1)).all cmpRight = true := fun hb => by
            rw [List.take_succ_eq_append_getElem hk2, List.all_append, hq, hc]; simp [hb]
          refine Sq.index (x := cmpsT l) tab_ok rfl (by omega) (by simpa using he) rfl ?_
          repeat' (first | refine Tr.seq ?_ | refine Tr.region ?_ | refine Sq.ev tab_ok rfl rfl ?_ | refine Sq.nil ?_ | (refine Sq.guard rfl rfl (fun _ => ?_) (fun _ => ?_) <;> refine Sq.ev tab_ok rfl rfl ?_) | (refine Tr.cond rfl (fun _ => ?_) (fun _ => ?_) <;> try (rename_i h; cases h; done)) | refine Tr.block ?_ | refine Tr.skip ?_ | refine Tr.ret ⟨_, rfl, ?_⟩)
          refine Sq.index (x := Cmp.t c) tab_ok rfl (by omega) (by simpa using hce) rfl ?_
          repeat' (first | refine Tr.seq ?_ | refine Tr.region ?_ | refine Sq.ev tab_ok rfl rfl ?_ | refine Sq.nil ?_ | (refine Sq.guard rfl rfl (fun _ => ?_) (fun _ => ?_) <;> refine Sq.ev tab_ok rfl rfl ?_) | (refine Tr.cond rfl (fun _ => ?_) (fun _ => ?_) <;> try (rename_i h; cases h; done)) | refine Tr.block ?_ | refine Tr.skip ?_ | refine Tr.ret ⟨_, rfl, ?_⟩)
          all_goals first | (refine Sq.eqag rfl (by kernel_rfl) (fun w => eqA_rver 9998 w _ _ _ _ _ _ _ _) ?_) | skip
          all_goals repeat' (first | refine Tr.seq ?_ | refine Tr.region ?_ | refine Sq.ev tab_ok rfl rfl ?_ | refine Sq.nil ?_ | (refine Sq.guard rfl rfl (fun _ => ?_) (fun _ => ?_) <;> refine Sq.ev tab_ok rfl rfl ?_) | (refine Tr.cond rfl (fun _ => ?_) (fun _ => ?_) <;> try (rename_i h; cases h; done)) | refine Tr.block ?_ | refine Tr.skip ?_ | refine Tr.ret ⟨_, rfl, ?_⟩)
          all_goals first | (refine Sq.callv rfl (refRight_ok c.v (hl2 c hcm)) ?_) | skip
          all_goals repeat' (first | refine Tr.seq ?_ | refine Tr.region ?_ | refine Sq.ev tab_ok rfl rfl ?_ | refine Sq.nil ?_ | (refine Sq.guard rfl rfl (fun _ => ?_) (fun _ => ?_) <;> refine Sq.ev tab_ok rfl rfl ?_) | (refine Tr.cond rfl (fun _ => ?_) (fun _ => ?_) <;> try (rename_i h; cases h; done)) | refine Tr.block ?_ | refine Tr.skip ?_ | refine Tr.ret ⟨_, rfl, ?_⟩)
          all_goals clear hce he hq hp h1 h2 h3 h4 h5 hs hs2 h hr hn hl2 hl hcm
          all_goals simp only [eqSg_t, eqSg_f, ba_toList, decide_eq_true_eq, decide_eq_false_iff_not, beq_iff_eq, beq_eq_false_iff_ne, Bool.not_eq_true', Bool.not_eq_false'] at *
          all_goals first
            | (refine ⟨k + 1, ⟨by omega, good ?_⟩, by omega, Sub.app (l := [_, _, _, _]) (H := []) ⟨rfl, rfl, rfl, congrArg some (wrapz (by omega) (by omega) (by omega)), trivial⟩ (fun κ v h => nomatch h)⟩
               clear bad bad2 good
               by_cases h0 : c.op = 0
               · rw [cmpRight_z h0]; simp_all [cmpIsZero]
               · rw [cmpRight_n h0]; simp_all <;> omega)
            | (rw [bad2 ?_]
               clear bad bad2 good
               by_cases h0 : c.op = 0
               · rw [cmpRight_z h0]; simp_all [cmpIsZero] <;> omega
               · rw [cmpRight_n h0]; simp_all <;> omega)
            | (exfalso
               have hz : cmpIsZero c = true := by
                 unfold cmpIsZero
                 rename_i h7 h8 _
                 rw [h7]; exact h8
               have h9 := zero_right hz
               simp_all)
        · rename_i h5
          have hk2 : l.length ≤ k := by simp only [List.length_map, decide_eq_false_iff_not] at h5; omega
          rw [List.take_of_length_le hk2] at hq
          refine Tr.exit ?_
          repeat' (first | refine Tr.seq ?_ | refine Tr.region ?_ | refine Sq.ev tab_ok rfl rfl ?_ | refine Sq.nil ?_ | (refine Sq.guard rfl rfl (fun _ => ?_) (fun _ => ?_) <;> refine Sq.ev tab_ok rfl rfl ?_) | (refine Tr.cond rfl (fun _ => ?_) (fun _ => ?_) <;> try (rename_i h; cases h; done)) | refine Tr.block ?_ | refine Tr.skip ?_ | refine Tr.ret ⟨_, rfl, ?_⟩)
          refine ⟨i + 1, ⟨by omega, ?_⟩, by omega, Sub.app (l := [_, _, _]) (H := []) ⟨rfl, rfl, congrArg some (wrapz (by omega) (by omega) (by omega)), trivial⟩ (fun κ v h => nomatch h)⟩
          rw [List.take_succ_eq_append_getElem hlt, List.all_append, hp, hl]; simp [ep, hq]
    · rename_i h
      have hge : r.length ≤ i := by simp only [List.length_map, decide_eq_false_iff_not] at h; omega
      rw [List.take_of_length_le hge] at hp
      refine Tr.exit ?_
      repeat' (first | refine Tr.seq ?_ | refine Tr.region ?_ | refine Sq.ev tab_ok rfl rfl ?_ | refine Sq.nil ?_ | (refine Sq.guard rfl rfl (fun _ => ?_) (fun _ => ?_) <;> refine Sq.ev tab_ok rfl rfl ?_) | (refine Tr.cond rfl (fun _ => ?_) (fun _ => ?_) <;> try (rename_i h; cases h; done)) | refine Tr.block ?_ | refine Tr.skip ?_ | refine Tr.ret ⟨_, rfl, ?_⟩)
      rw [hp]
theorem rngRight_at {r : Rng} (h : rngRight r = true) {l : List Cmp} (hl : l ∈ r) {c : Cmp} (hc : c ∈ l) : cmpRight c = true := by
  rw [rngRight_eq, Bool.and_eq_true, List.all_eq_true] at h
  have := h.1 l hl
  unfold rngP at this
  rw [Bool.and_eq_true, List.all_eq_true] at this
  exact this.2 c hc
theorem refHas_ok (r : Rng) (v : Ver) (hr : r.ok) (hn : r.length ≤ 1073741824) (hv : v.ok) : Fn Tryz.prog Gw 72 [.tr (rngT r), .tr (Ver.t v)] [] (· = bool (hasR r v)) := by
  refine Fn.of tab_ok Tryz.func72 rfl (by decide) (by simp [Tryz.f72]) rfl (fun κ v h => by cases h) Gw.below ?_
  repeat' (first | refine Tr.seq ?_ | refine Tr.region ?_ | refine Sq.ev tab_ok rfl rfl ?_ | refine Sq.nil ?_ | (refine Sq.guard rfl rfl (fun _ => ?_) (fun _ => ?_) <;> refine Sq.ev tab_ok rfl rfl ?_) | (refine Tr.cond rfl (fun _ => ?_) (fun _ => ?_) <;> try (rename_i h; cases h; done)) | refine Tr.block ?_ | refine Tr.skip ?_ | refine Tr.ret ⟨_, rfl, ?_⟩)
  refine Sq.callv rfl (refRngRight_ok r hr hn) ?_
  repeat' (first | refine Tr.seq ?_ | refine Tr.region ?_ | refine Sq.ev tab_ok rfl rfl ?_ | refine Sq.nil ?_ | (refine Sq.guard rfl rfl (fun _ => ?_) (fun _ => ?_) <;> refine Sq.ev tab_ok rfl rfl ?_) | (refine Tr.cond rfl (fun _ => ?_) (fun _ => ?_) <;> try (rename_i h; cases h; done)) | refine Tr.block ?_ | refine Tr.skip ?_ | refine Tr.ret ⟨_, rfl, ?_⟩)
  all_goals first | (refine Sq.callv rfl (refRight_ok v hv) ?_) | skip
  all_goals repeat' (first | refine Tr.seq ?_ | refine Tr.region ?_ | refine Sq.ev tab_ok rfl rfl ?_ | refine Sq.nil ?_ | (refine Sq.guard rfl rfl (fun _ => ?_) (fun _ => ?_) <;> refine Sq.ev tab_ok rfl rfl ?_) | (refine Tr.cond rfl (fun _ => ?_) (fun _ => ?_) <;> try (rename_i h; cases h; done)) | refine Tr.block ?_ | refine Tr.skip ?_ | refine Tr.ret ⟨_, rfl, ?_⟩)
  · rename_i h _
    have : rngRight r = false := by simpa using h
    unfold hasR; rw [this]; rfl
  · rename_i h
    have : v.right = false := by simpa using h
    unfold hasR; rw [this, Bool.false_and, Bool.and_false]
  · rename_i h1 h2
    have e1 : rngRight r = true := by simpa using h1
    have e2 : v.right = true := by simpa using h2
    have e3 : hasR r v = r.any fun l => l.all fun c => hasC c v := by unfold hasR; rw [e1, e2]; rfl
    rw [e3]
    refine Tr.loopS (fun i : Nat => [(.s 2, .ptr (.l 2) 0), (.l 2, .blk 93 [.tr (.ls (r.map cmpsT))]), (.s 3, .ptr (.l 3) 0), (.l 3, .blk 87 [int v.a, int v.b, int v.c, str v.p]), (.s 5, int i)]) (fun i => r.length - i) (fun i => i ≤ r.length ∧ (r.take i).any (fun l => l.all fun c => hasC c v) = false)
      0 ⟨by omega, by simp⟩ (Sub.app (l := [_, _, _, _, _]) (H := []) ⟨rfl, rfl, rfl, rfl, rfl, trivial⟩ (fun κ v h => nomatch h)) ?_
    rintro i ⟨hi, hp⟩
    repeat' (first | refine Tr.seq ?_ | refine Tr.region ?_ | refine Sq.ev tab_ok rfl rfl ?_ | refine Sq.nil ?_ | (refine Sq.guard rfl rfl (fun _ => ?_) (fun _ => ?_) <;> refine Sq.ev tab_ok rfl rfl ?_) | (refine Tr.cond rfl (fun _ => ?_) (fun _ => ?_) <;> try (rename_i h; cases h; done)) | refine Tr.block ?_ | refine Tr.skip ?_ | refine Tr.ret ⟨_, rfl, ?_⟩)
    · rename_i h
      have hlt : i < r.length := by simp only [List.length_map, decide_eq_true_eq] at h; omega
      obtain ⟨hl1, hl2⟩ := hr r[i] (List.getElem_mem hlt)
      have hlm := List.getElem_mem hlt
      obtain ⟨l, hl⟩ : ∃ l, r[i] = l := ⟨_, rfl⟩
      have he : (r.map cmpsT)[i]? = some (cmpsT l) := by rw [List.getElem?_map, List.getElem?_eq_getElem hlt, hl]; rfl
      rw [hl] at hl1 hl2 hlm
      refine Tr.loopS (fun k : Nat => [(.s 2, .ptr (.l 2) 0), (.l 2, .blk 93 [.tr (.ls (r.map cmpsT))]), (.s 3, .ptr (.l 3) 0), (.l 3, .blk 87 [int v.a, int v.b, int v.c, str v.p]), (.s 5, int i), (.s 6, bool ((l.take k).all fun c => hasC c v)), (.s 7, int k)]) (fun k => l.length - k) (fun k => k ≤ l.length)
        0 (by omega) (Sub.app (l := [_, _, _, _, _, _, _]) (H := []) ⟨rfl, rfl, rfl, rfl, rfl, rfl, rfl, trivial⟩ (fun κ v h => nomatch h)) ?_
      intro k hk
      repeat' (first | refine Tr.seq ?_ | refine Tr.region ?_ | refine Sq.ev tab_ok rfl rfl ?_ | refine Sq.nil ?_ | (refine Sq.guard rfl rfl (fun _ => ?_) (fun _ => ?_) <;> refine Sq.ev tab_ok rfl rfl ?_) | (refine Tr.cond rfl (fun _ => ?_) (fun _ => ?_) <;> try (rename_i h; cases h; done)) | refine Tr.block ?_ | refine Tr.skip ?_ | refine Tr.ret ⟨_, rfl, ?_⟩)
      refine Sq.index (x := cmpsT l) tab_ok rfl (by omega) (by simpa using he) rfl ?_
      repeat' (first | refine Tr.seq ?_ | refine Tr.region ?_ | refine Sq.ev tab_ok rfl rfl ?_ | refine Sq.nil ?_ | (refine Sq.guard rfl rfl (fun _ => ?_) (fun _ => ?_) <;> refine Sq.ev tab_ok rfl rfl ?_) | (refine Tr.cond rfl (fun _ => ?_) (fun _ => ?_) <;> try (rename_i h; cases h; done)) | refine Tr.block ?_ | refine Tr.skip ?_ | refine Tr.ret ⟨_, rfl, ?_⟩)
      · rename_i h5
        have hk2 : k < l.length := by simp only [List.length_map, decide_eq_true_eq] at h5; omega
        obtain ⟨c, hc⟩ : ∃ c, l[k] = c := ⟨_, rfl⟩
        have hcm : c ∈ l := hc ▸ List.getElem_mem hk2
        have hce : (l.map Cmp.t)[k]? = some (Cmp.t c) := by rw [List.getElem?_map, List.getElem?_eq_getElem hk2, hc]; rfl
        have step : ((l.take (k + 1)).all fun c => hasC c v) = (((l.take k).all fun c => hasC c v) && hasC c v) := by
          rw [List.take_succ_eq_append_getElem hk2, List.all_append, hc]; simp
        have co := one_ok c v (hl2 c hcm) hv (rngRight_at e1 hlm hcm)
        cases hb : ((l.take k).all fun c => hasC c v)
        · refine Tr.drawn ( DSq.ev tab_ok rfl rfl <| DSq.ev tab_ok rfl rfl <| DSq.ev tab_ok rfl rfl <| DSq.ev tab_ok rfl rfl <| DSq.ev tab_ok rfl rfl <| DSq.ev tab_ok rfl rfl <| DSq.ev tab_ok rfl rfl <| DSq.ev tab_ok rfl rfl <| DSq.ev tab_ok rfl rfl <| DSq.ev tab_ok rfl rfl <| DSq.ev tab_ok rfl rfl <| DSq.ev tab_ok rfl rfl <| DSq.ev tab_ok rfl rfl <| DSq.ev tab_ok rfl rfl <| DSq.nil _) mix_ok rfl ?_
          repeat' (first | refine Tr.seq ?_ | refine Tr.region ?_ | refine Sq.ev tab_ok rfl rfl ?_ | refine Sq.nil ?_ | (refine Sq.guard rfl rfl (fun _ => ?_) (fun _ => ?_) <;> refine Sq.ev tab_ok rfl rfl ?_) | (refine Tr.cond rfl (fun _ => ?_) (fun _ => ?_) <;> try (rename_i h; cases h; done)) | refine Tr.block ?_ | refine Tr.skip ?_ | refine Tr.ret ⟨_, rfl, ?_⟩)
          exact ⟨k + 1, by omega, by omega, Sub.app (l := [_, _, _, _, _, _, _]) (H := []) ⟨rfl, rfl, rfl, rfl, rfl, by rw [step, hb]; rfl, congrArg some (wrapz (by omega) (by omega) (by omega)), trivial⟩ (fun κ v h => nomatch h)⟩
        · refine Tr.drawn ( DSq.ev tab_ok rfl rfl <| DSq.ev tab_ok rfl rfl <| DSq.ev tab_ok rfl rfl <| DSq.ev tab_ok rfl rfl <| DSq.ev tab_ok rfl rfl <| DSq.one rfl (fun q K hK => Sq.index (x := cmpsT l) tab_ok rfl (by omega) (by simpa using he) rfl (Sq.nil hK)) <| DSq.ev tab_ok rfl rfl <| DSq.ev tab_ok rfl rfl <| DSq.one rfl (fun q K hK => Sq.index (x := Cmp.t c) tab_ok rfl (by omega) (by simpa using hce) rfl (Sq.nil hK)) <| DSq.ev tab_ok rfl rfl <| DSq.ev tab_ok rfl rfl <| DSq.call rfl (fun _ => rfl) (co) <| DSq.ev tab_ok rfl rfl <| DSq.ev tab_ok rfl rfl <| DSq.nil _) mix_ok rfl ?_
          repeat' (first | refine Tr.seq ?_ | refine Tr.region ?_ | refine Sq.ev tab_ok rfl rfl ?_ | refine Sq.nil ?_ | (refine Sq.guard rfl rfl (fun _ => ?_) (fun _ => ?_) <;> refine Sq.ev tab_ok rfl rfl ?_) | (refine Tr.cond rfl (fun _ => ?_) (fun _ => ?_) <;> try (rename_i h; cases h; done)) | refine Tr.block ?_ | refine Tr.skip ?_ | refine Tr.ret ⟨_, rfl, ?_⟩)
          exact ⟨k + 1, by omega, by omega, Sub.app (l := [_, _, _, _, _, _, _]) (H := []) ⟨rfl, rfl, rfl, rfl, rfl, by rw [step, hb]; rfl, congrArg some (wrapz (by omega) (by omega) (by omega)), trivial⟩ (fun κ v h => nomatch h)⟩
      · rename_i h5
        have hk2 : l.length ≤ k := by simp only [List.length_map, decide_eq_false_iff_not] at h5; omega
        rw [List.take_of_length_le hk2]
        refine Tr.exit ?_
        repeat' (first | refine Tr.seq ?_ | refine Tr.region ?_ | refine Sq.ev tab_ok rfl rfl ?_ | refine Sq.nil ?_ | (refine Sq.guard rfl rfl (fun _ => ?_) (fun _ => ?_) <;> refine Sq.ev tab_ok rfl rfl ?_) | (refine Tr.cond rfl (fun _ => ?_) (fun _ => ?_) <;> try (rename_i h; cases h; done)) | refine Tr.block ?_ | refine Tr.skip ?_ | refine Tr.ret ⟨_, rfl, ?_⟩)
        all_goals rename_i h6
        · have : (r.any fun l => l.all fun c => hasC c v) = true := List.any_eq_true.2 ⟨l, hlm, h6⟩
          rw [this]
        · refine ⟨i + 1, ⟨by omega, ?_⟩, by omega, Sub.app (l := [_, _, _, _, _]) (H := []) ⟨rfl, rfl, rfl, rfl, congrArg some (wrapz (by omega) (by omega) (by omega)), trivial⟩ (fun κ v h => nomatch h)⟩
          rw [List.take_succ_eq_append_getElem hlt, List.any_append, hp, hl]; simp [h6]
    · rename_i h
      have hge : r.length ≤ i := by simp only [List.length_map, decide_eq_false_iff_not] at h; omega
      rw [List.take_of_length_le hge] at hp
      refine Tr.exit ?_
      repeat' (first | refine Tr.seq ?_ | refine Tr.region ?_ | refine Sq.ev tab_ok rfl rfl ?_ | refine Sq.nil ?_ | (refine Sq.guard rfl rfl (fun _ => ?_) (fun _ => ?_) <;> refine Sq.ev tab_ok rfl rfl ?_) | (refine Tr.cond rfl (fun _ => ?_) (fun _ => ?_) <;> try (rename_i h; cases h; done)) | refine Tr.block ?_ | refine Tr.skip ?_ | refine Tr.ret ⟨_, rfl, ?_⟩)
      rw [hp]
end Go.Lg.Tryz

set_option linter.unusedVariables false
set_option linter.unusedSimpArgs false
namespace Go.Lg.Sem
open Go Go.Lib
theorem pieces_lenS (sep s : ByteArray) (h : 1 ≤ sep.size) : (pieces sep s).length ≤ s.size + 1 := by
  unfold pieces
  rw [Lib.splitB_all sep h 0 _ s rfl]
  have := Lib.countB_le sep h s.size s (Nat.le_refl _)
  omega
theorem pieces_sizeS (sep : ByteArray) (h : 1 ≤ sep.size) : ∀ (n : Nat) (s : ByteArray), s.size = n → ∀ p, p ∈ pieces sep s → p.size ≤ s.size := by
  intro n
  induction n using Nat.strongRecOn with
  | _ n ih =>
    intro s hn p hp
    rcases Lib.indexB_cases s sep with hi | ⟨i, hi, hib⟩
    · rw [pieces_miss sep s hi] at hp
      rw [List.mem_singleton.1 hp]; exact Nat.le_refl _
    · rw [pieces_hit sep s h i hi] at hp
      rcases List.mem_cons.1 hp with rfl | hp
      · rw [ByteArray.size_extract]; omega
      · have hz : (s.extract (i + sep.size) s.size).size = s.size - (i + sep.size) := by rw [ByteArray.size_extract]; omega
        have := ih (s.size - (i + sep.size)) (by omega) _ hz p hp
        omega
/-- The signs. -/
def signL : List ByteArray := [⟨#[42]⟩, ⟨#[61]⟩, ⟨#[60]⟩, ⟨#[60, 61]⟩, ⟨#[62]⟩, ⟨#[62, 61]⟩, ⟨#[94]⟩, ⟨#[126]⟩]
def signAt (i : Nat) : ByteArray := signL.getD i ByteArray.empty
def opStep (s : ByteArray) (op : Nat) (i : Nat) : Nat := if 0 < i ∧ Lib.hasPrefix s.data.toList (signAt i).data.toList = true ∧ (op = 0 ∨ (signAt i).size = 2) then i else op
def opUpto (s : ByteArray) : Nat → Nat
  | 0 => 0
  | k + 1 => opStep s (opUpto s k) k
def opOf (s : ByteArray) : Nat := opUpto s 8
def verOf (r : Int × Int × Int × ByteArray × Int) : Ver := ⟨r.1, r.2.1, r.2.2.1, r.2.2.2.1⟩
def parseVer (s : ByteArray) : Ver × Int := (verOf (parseV s), (parseV s).2.2.2.2)
def Cmp.zero : Cmp := ⟨0, Ver.zero⟩
def compV (s : ByteArray) : Cmp × Bool :=
  if s.data.toList = [42] then (Cmp.zero, true) else if opOf s = 0 then (Cmp.zero, false)
  else (⟨opOf s, (parseVer (s.extract (signAt (opOf s)).size s.size)).1⟩, (parseVer (s.extract (signAt (opOf s)).size s.size)).2 == 0)
def sp : ByteArray := ⟨#[32]⟩
def bars : ByteArray := ⟨#[32, 124, 124, 32]⟩
def altOk (a : ByteArray) : Bool := (pieces sp a).all fun t => (compV t).2
def altL (a : ByteArray) : List Cmp := (pieces sp a).map fun t => (compV t).1
def rangeV (s : ByteArray) : Rng × Int :=
  if (pieces bars s).all altOk = true ∧ rngRight ((pieces bars s).map altL) = true then ((pieces bars s).map altL, 0) else ([], 10)
theorem parse_size (s : ByteArray) : (parseVer s).1.p.size ≤ s.size := by
  show (parseV s).2.2.2.1.size ≤ s.size
  rw [parseV_eq]
  have := (cut_le s.data.toList [45]).2
  have hl := data_length s
  unfold pvV
  split
  · show (ByteArray.mk #[]).size ≤ _; exact Nat.zero_le _
  · show (toBytes _).size ≤ _; rw [toBytes_size]; omega
theorem compV_size (s : ByteArray) : (compV s).1.v.p.size ≤ s.size := by
  unfold compV
  split
  · exact Nat.zero_le _
  · split
    · exact Nat.zero_le _
    · refine Nat.le_trans (parse_size _) ?_
      rw [ByteArray.size_extract]; omega
theorem opUpto_le (s : ByteArray) : ∀ k, opUpto s k ≤ k
  | 0 => Nat.le_refl _
  | k + 1 => by
    show opStep s (opUpto s k) k ≤ k + 1
    have := opUpto_le s k
    unfold opStep; split <;> omega
theorem opUpto_lt (s : ByteArray) : ∀ k, 0 < k → opUpto s k < k
  | 0, h => absurd h (by omega)
  | k + 1, _ => by
    show opStep s (opUpto s k) k < k + 1
    have := opUpto_le s k
    unfold opStep; split <;> omega
theorem opOf_lt (s : ByteArray) : opOf s < 8 := opUpto_lt s 8 (by omega)
theorem sign_size (i : Nat) : (signAt i).size ≤ 2 := by
  match i with
  | 0 | 1 | 2 | 3 | 4 | 5 | 6 | 7 => decide
  | i + 8 => exact Nat.zero_le _
theorem prefix_len (l p : List UInt8) (h : Lib.hasPrefix l p = true) : p.length ≤ l.length :=
  (List.isPrefixOf_iff_prefix.1 h).length_le
theorem opUpto_size (s : ByteArray) : ∀ k, opUpto s k ≠ 0 → (signAt (opUpto s k)).size ≤ s.size
  | 0, h => absurd rfl h
  | k + 1, h => by
    have ih := opUpto_size s k
    have e : opUpto s (k + 1) = opStep s (opUpto s k) k := rfl
    rw [e] at h ⊢
    unfold opStep at h ⊢
    split at h
    · rename_i hc
      rw [if_pos hc]
      have := prefix_len _ _ hc.2.1
      rw [data_length, data_length] at this; exact this
    · rename_i hc
      rw [if_neg hc]; exact ih h
end Go.Lg.Sem

set_option linter.unusedVariables false
set_option linter.unusedSimpArgs false
namespace Go.Lg.Sem
open Go Go.Lib
theorem upperV_right (c : Cmp) (h : (upperV c).2 = true) : (upperV c).1.right = true := by
  unfold upperV at h ⊢
  generalize upPart c = k at *
  unfold bumpV at h ⊢
  split at h
  · split at h
    · rename_i h1 h2
      rw [if_pos h1, if_pos h2]
      exact h2
    · simp at h
  · simp at h
theorem hasC_said (c : Cmp) (v : Ver) (hr : cmpRight c = true) : ((saidC c).all fun d => hasC d v) = hasC c v := by
  unfold saidC
  by_cases h6 : c.op < 6
  · rw [if_pos h6]; simp
  · rw [if_neg h6]
    have hle : c.op ≤ 7 := by
      rw [cmpRight, if_neg (by omega)] at hr
      simp only [Bool.and_eq_true, decide_eq_true_eq] at hr; exact hr.2.1
    have h67 : c.op = 6 ∨ c.op = 7 := by omega
    have e : hasC c v = (decide (cmpVer v c.v ≥ 0) && (!(upperV c).2 || decide (cmpVer v (upperV c).1 < 0))) := by
      unfold hasC
      rw [if_neg (by omega), if_neg (by omega), if_neg (by omega), if_neg (by omega), if_neg (by omega), if_pos h67]
    rw [e]
    have e5 : hasC ⟨5, c.v⟩ v = decide (cmpVer v c.v ≥ 0) := by simp [hasC]
    have e2 : hasC ⟨2, (upperV c).1⟩ v = decide (cmpVer v (upperV c).1 < 0) := by simp [hasC]
    cases hu : (upperV c).2
    · simp [e5]
    · simp [e5, e2]
theorem right_said (c : Cmp) (hr : cmpRight c = true) : (saidC c).all cmpRight = true := by
  unfold saidC
  by_cases h6 : c.op < 6
  · rw [if_pos h6]; simp [hr]
  · rw [if_neg h6]
    have hv : c.v.right = true := by
      rw [cmpRight, if_neg (by omega)] at hr
      simp only [Bool.and_eq_true, decide_eq_true_eq] at hr; exact hr.2.2
    have e5 : cmpRight ⟨5, c.v⟩ = true := by simp [cmpRight, hv]
    cases hu : (upperV c).2
    · simp [e5]
    · have := upperV_right c hu
      have e2 : cmpRight ⟨2, (upperV c).1⟩ = true := by simp [cmpRight, this]
      simp [e5, e2]
theorem saidC_ne (c : Cmp) : 1 ≤ (saidC c).length := by
  unfold saidC; split <;> simp
theorem said_ge : ∀ (l : List Cmp), l.length ≤ (l.flatMap saidC).length
  | [] => by simp
  | c :: l => by
    have := said_ge l
    have := saidC_ne c
    rw [List.flatMap_cons, List.length_append, List.length_cons]; omega
theorem all_said (p : Cmp → Bool) (q : Cmp → Bool) : ∀ (l : List Cmp), (∀ c, c ∈ l → (saidC c).all p = q c) → (l.flatMap saidC).all p = l.all q
  | [], _ => rfl
  | c :: l, h => by
    rw [List.flatMap_cons, List.all_append, List.all_cons, h c (List.mem_cons_self ..), all_said p q l (fun d hd => h d (List.mem_cons_of_mem _ hd))]
theorem rngRight_in {r : Rng} (h : rngRight r = true) {l : List Cmp} (hl : l ∈ r) : sizedB l.length = true ∧ l.all cmpRight = true := by
  unfold rngRight at h
  rw [Bool.and_eq_true, List.all_eq_true] at h
  have := h.1 l hl
  rwa [Bool.and_eq_true] at this
theorem rngRight_len {r : Rng} (h : rngRight r = true) : 1 ≤ r.length ∧ r.length ≤ 8 := by
  unfold rngRight sizedB at h
  simp only [Bool.and_eq_true, decide_eq_true_eq] at h
  omega
theorem rngRight_said {r : Rng} (h : rngRight r = true) (hs : smallR (saidR r) = true) : rngRight (saidR r) = true := by
  obtain ⟨h1, h2⟩ := rngRight_len h
  unfold smallR at hs
  rw [Bool.and_eq_true, List.all_eq_true] at hs
  unfold rngRight
  rw [Bool.and_eq_true, List.all_eq_true]
  refine ⟨?_, by simp [saidR, sizedB]; omega⟩
  intro m hm
  have h8 := hs.2 m hm
  obtain ⟨l, hl, rfl⟩ := List.mem_map.1 hm
  obtain ⟨h3, h4⟩ := rngRight_in h hl
  have h5 := said_ge l
  rw [List.all_eq_true] at h4
  rw [Bool.and_eq_true]
  refine ⟨?_, ?_⟩
  · simp only [sizedB, Bool.and_eq_true, decide_eq_true_eq] at h3 h8 ⊢
    omega
  · rw [all_said cmpRight (fun _ => true) l (fun c hc => right_said c (h4 c hc))]
    simp
theorem hasR_said {r : Rng} (v : Ver) (h : rngRight r = true) (hs : smallR (saidR r) = true) : hasR (saidR r) v = hasR r v := by
  unfold hasR
  rw [rngRight_said h hs, h]
  congr 2
  unfold saidR
  rw [List.any_map]
  rw [Bool.eq_iff_iff, List.any_eq_true, List.any_eq_true]
  have key : ∀ l, l ∈ r → ((l.flatMap saidC).all fun c => hasC c v) = l.all fun c => hasC c v := fun l hl => by
    have h4 := (rngRight_in h hl).2
    rw [List.all_eq_true] at h4
    exact all_said _ _ l (fun c hc => hasC_said c v (h4 c hc))
  constructor
  · rintro ⟨l, hl, hh⟩; exact ⟨l, hl, by rw [← key l hl]; exact hh⟩
  · rintro ⟨l, hl, hh⟩; exact ⟨l, hl, by show ((l.flatMap saidC).all fun c => hasC c v) = true; rw [key l hl]; exact hh⟩
def bigR (r : Rng) : Bool := (saidR r).any fun l => decide ((l.length : Int) > 8)
theorem small_big {r : Rng} (h : rngRight r = true) : smallR (saidR r) = !bigR r := by
  obtain ⟨h1, h2⟩ := rngRight_len h
  unfold smallR bigR
  have : (saidR r).length ≤ 8 := by simp [saidR]; omega
  rw [decide_eq_true this, Bool.true_and, Bool.eq_iff_iff, Bool.not_eq_true', List.all_eq_true, ← Bool.not_eq_true, List.any_eq_true]
  constructor
  · rintro h ⟨l, hl, h3⟩
    have := h l hl
    simp only [decide_eq_true_eq] at this h3; omega
  · intro h l hl
    simp only [decide_eq_true_eq]
    rcases Nat.lt_or_ge 8 l.length with h4 | h4
    · exact absurd ⟨l, hl, by simp only [decide_eq_true_eq]; omega⟩ h
    · exact h4
theorem plain_ok_of {m : Nat} {r : Rng} (h : plainR m r = true) (hm : m ≤ 1000) : r.ok ∧ r.length ≤ m ∧ ∀ l, l ∈ r → l.length ≤ m := by
  unfold plainR at h
  rw [Bool.and_eq_true, List.all_eq_true] at h
  have h2 : ∀ l, l ∈ r → l.length ≤ m ∧ ∀ c, c ∈ l → c.v.p.size ≤ 100 := fun l hl => by
    have := h.2 l hl
    unfold plainL at this
    rw [Bool.and_eq_true, List.all_eq_true] at this
    refine ⟨of_decide_eq_true this.1, fun c hc => ?_⟩
    have := this.2 c hc
    unfold plainC at this
    exact of_decide_eq_true this
  refine ⟨fun l hl => ⟨?_, fun c hc => ?_⟩, of_decide_eq_true h.1, fun l hl => (h2 l hl).1⟩
  · have := (h2 l hl).1; omega
  · have := (h2 l hl).2 c hc
    show c.v.p.size ≤ 1000000000
    omega
theorem plain_said {r : Rng} (h : plainR 20 r = true) (hs : smallR (saidR r) = true) : plainR 20 (saidR r) = true := by
  unfold smallR at hs
  rw [Bool.and_eq_true, List.all_eq_true] at hs
  unfold plainR at h ⊢
  rw [Bool.and_eq_true, List.all_eq_true] at h ⊢
  have h1 := of_decide_eq_true hs.1
  refine ⟨by rw [decide_eq_true_eq]; omega, ?_⟩
  intro m hm
  have h8 := of_decide_eq_true (hs.2 m hm)
  obtain ⟨l, hl, rfl⟩ := List.mem_map.1 hm
  have hp := h.2 l hl
  unfold plainL at hp ⊢
  rw [Bool.and_eq_true, List.all_eq_true] at hp
  rw [Bool.and_eq_true]
  refine ⟨by rw [decide_eq_true_eq]; omega, ?_⟩
  rw [all_said plainC (fun _ => true) l (fun c hc => ?_)]
  · simp
  · have hc2 := hp.2 c hc
    unfold saidC
    split
    · simp [hc2]
    · have e5 : plainC ⟨5, c.v⟩ = true := hc2
      have e2 : plainC ⟨2, (upperV c).1⟩ = true := rfl
      split <;> simp [e5, e2]
end Go.Lg.Sem

set_option linter.unusedVariables false
set_option linter.unusedSimpArgs false
namespace Go.Lg.Sem
open Go
structure Nd where
  s : Int
  r : Rng
structure Rls where
  v : Ver
  level : Int
  needs : List Nd
structure Svc where
  name : ByteArray
  rels : List Rls
abbrev Ctl := List Svc
/-- What a play goes through with. -/
def Nd.small (n : Nd) : Bool := plainR 12 n.r
def Rls.small (r : Rls) : Bool := decide (r.needs.length ≤ 12) && decide (r.v.p.size ≤ 100) && r.needs.all Nd.small
def Svc.small (s : Svc) : Bool := decide (s.name.size ≤ 100) && decide (s.rels.length ≤ 16) && s.rels.all Rls.small
def smallC (c : Ctl) : Bool := decide (c.length ≤ 16) && c.all Svc.small
theorem Nd.of_small {n : Nd} (h : n.small = true) : n.r.ok ∧ n.r.length ≤ 12 ∧ ∀ l, l ∈ n.r → l.length ≤ 12 := plain_ok_of h (by omega)
theorem Rls.of_small {r : Rls} (h : r.small = true) : r.needs.length ≤ 12 ∧ r.v.p.size ≤ 100 ∧ ∀ n, n ∈ r.needs → n.small = true := by
  simp only [Rls.small, Bool.and_eq_true, decide_eq_true_eq, List.all_eq_true] at h; exact ⟨h.1.1, h.1.2, h.2⟩
theorem Svc.of_small {s : Svc} (h : s.small = true) : s.name.size ≤ 100 ∧ s.rels.length ≤ 16 ∧ ∀ r, r ∈ s.rels → r.small = true := by
  simp only [Svc.small, Bool.and_eq_true, decide_eq_true_eq, List.all_eq_true] at h; exact ⟨h.1.1, h.1.2, h.2⟩
theorem smallC_of {c : Ctl} (h : smallC c = true) : c.length ≤ 16 ∧ ∀ s, s ∈ c → s.small = true := by
  simp only [smallC, Bool.and_eq_true, decide_eq_true_eq, List.all_eq_true] at h; exact h
theorem Rls.ok_of {r : Rls} (h : r.small = true) : r.v.ok := by
  have := (Rls.of_small h).2.1
  show r.v.p.size ≤ 1000000000
  omega
/-! who needs whom -/
def asksN (l : List Nd) (j : Int) : Bool := l.any fun n => n.s == j
def asksS (s : Svc) (j : Int) : Bool := s.rels.any fun r => asksN r.needs j
def asks (c : Ctl) (i : Nat) (j : Int) : Bool := match c[i]? with
  | some s => asksS s j
  | none => false
def pairB (c : Ctl) (i j : Int) : Bool := decide (0 ≤ i) && decide (0 ≤ j) && decide (i < c.length) && decide (j < c.length) && (i != j)
def linkedC (c : Ctl) (i j : Int) : Bool := pairB c i j && (asks c i.toNat j || asks c j.toNat i)
theorem pairB_of {c : Ctl} {i j : Int} (h : pairB c i j = true) : 0 ≤ i ∧ 0 ≤ j ∧ i < c.length ∧ j < c.length ∧ i ≠ j := by
  simp only [pairB, Bool.and_eq_true, decide_eq_true_eq, bne_iff_ne] at h; omega
theorem pairB_comm (c : Ctl) (i j : Int) : pairB c i j = pairB c j i := by
  rw [Bool.eq_iff_iff]
  simp only [pairB, Bool.and_eq_true, decide_eq_true_eq, bne_iff_ne]; omega
theorem linked_comm (c : Ctl) (i j : Int) : linkedC c i j = linkedC c j i := by unfold linkedC; rw [pairB_comm, Bool.or_comm]
/-! what fits -/
def metB (r : Rls) (j : Int) (v : Ver) : Bool := !(r.needs.any fun n => n.s == j && !(hasR n.r v))
def relAt (c : Ctl) (i v : Int) : Option Rls := match c[i.toNat]? with
  | some s => if 0 ≤ v then s.rels[v.toNat]? else none
  | none => none
def fitsB (c : Ctl) (i v j w : Int) : Bool := pairB c i j && match relAt c i v, relAt c j w with
  | some a, some b => metB a j b.v && metB b i a.v
  | _, _ => false
theorem fits_comm (c : Ctl) (i v j w : Int) : fitsB c i v j w = fitsB c j w i v := by
  unfold fitsB
  rw [pairB_comm]
  cases relAt c i v <;> cases relAt c j w <;> simp [Bool.and_comm]
end Go.Lg.Sem

set_option linter.unusedVariables false
set_option linter.unusedSimpArgs false
namespace Go.Lg
open Go Go.RowKit Go.ChangeShapes Go.WideShapes Go.ChangeAt Go.Joins

/-- All that lies in a world. -/
def Mall (W : World) : Nat → Nat → Prop := fun b _ => b < W.heap.size
/-- Cells that read as trees. -/
structure RepL (W : World) (ts : List T) (cs : List Value) : Prop where
  len : cs.length = ts.length
  one : ∀ (j : Nat) (v : Value), cs[j]? = some v → v.oneCell' = true
  rep : ∀ (j : Nat) (y : T) (v : Value), ts[j]? = some y → cs[j]? = some v → Rep W (Mall W) y v
section
variable {H : Type} {enc : TypeId × Value → H} {P : Program} {W : World}
/-- Whatever reads as a value of type t is such a tree. -/
def Opens {α : Type} (enc : TypeId × Value → H) (P : Program) (W : World) (t : TypeId) (e : α → List T) : Prop :=
  ∀ (n : Nat) (cs : List Value) (x : DataW H × List MemPlace), DataW.trod enc P W 0 (fun _ => true) true n t cs = some x → ∃ a : α, RepL W (e a) cs
theorem RepL.one_mk {v : Value} {t : T} (h : v.oneCell' = true) (hr : Rep W (Mall W) t v) : RepL W [t] [v] := by
  refine ⟨rfl, fun j u hu => ?_, fun j y u hy hu => ?_⟩
  · cases j with
    | zero => simp at hu; subst hu; exact h
    | succ j => simp at hu
  · cases j with
    | zero => simp at hu hy; subst hu; subst hy; exact hr
    | succ j => simp at hu
theorem opens_int {t : TypeId} {k : IntKind} (ht : P.underlying t = some (.int k)) : Opens enc P W t (fun z : Int => [.sc (.int k z)]) := fun n cs x h => by
  obtain ⟨z, rfl, _⟩ := DataW.trod_int ht h
  exact ⟨z, .one_mk rfl (.sc _ rfl)⟩
theorem opens_string {t : TypeId} (ht : P.underlying t = some .string) : Opens enc P W t (fun s : ByteArray => [.sc (.string s)]) := fun n cs x h => by
  obtain ⟨s, rfl, _⟩ := DataW.trod_string ht h
  exact ⟨s, .one_mk rfl (.sc _ rfl)⟩
theorem opens_stringS {t : TypeId} (ht : P.underlying t = some .string) : Opens enc P W t (fun s : {s : ByteArray // s.size < 9223372036854775808} => [.sc (.string s.1)]) := fun n cs x h => by
  obtain ⟨s, rfl, _, hs⟩ := DataW.trod_string ht h
  exact ⟨⟨s, by have := hs; simp only [maxLen] at this; omega⟩, .one_mk rfl (.sc _ rfl)⟩
theorem opens_slice {α : Type} [Inhabited α] {t e : TypeId} {en : α → List T} (el : α → T) (hel : ∀ a, (el a).cells = en a) (ht : P.underlying t = some (.slice e)) (hc : ∀ a, (en a).length = P.cellsOf e) (hpos : 0 < P.cellsOf e) (hd : Opens enc P W e en) :
    Opens enc P W t (fun l : List α => [.ls (l.map el)]) := fun n cs x h => by
  rcases Go.Deep.open_slice ht h with ⟨rfl, _⟩ | ⟨a, len, cap, m, n', D, Pl, rfl, hb, hl, hm, hmm, _, hx⟩
  · exact ⟨[], .one_mk rfl (.nil _ _)⟩
  · simp only [if_true] at hmm
    subst hmm
    by_cases h0 : len = 0
    · subst h0
      exact ⟨[], .one_mk rfl (.nil _ _)⟩
    obtain ⟨f, hf⟩ := Go.Deep.choose_lt (α := α × List Value) (n := len) (p := fun i v => W.cells? 0 (a.add (i * P.cellsOf e)) (P.cellsOf e) = some v.2 ∧ RepL W (en v.1) v.2) (fun i hi => by
      obtain ⟨cs', h1, h2⟩ := hx i (by omega)
      obtain ⟨v, hv⟩ := hd _ _ _ h2
      exact ⟨(v, cs'), h1, hv⟩)
    have hcell : ∀ i, i < len → ∀ j, j < P.cellsOf e → W.cell? ((a.add (i * P.cellsOf e)).add j) = (f i).2[j]? ∧ (f i).2.length = P.cellsOf e := fun i hi j hj => by
      obtain ⟨_, h3, h4⟩ := World.cells?_some (hf i hi).1
      exact ⟨h4 j hj, h3⟩
    have hspot : a.spot = none := by
      obtain ⟨h1, h2⟩ := hcell 0 (by omega) 0 hpos
      rw [Go.Deep.add_add] at h1
      have h3 : (f 0).2[0]? ≠ none := by rw [List.getElem?_eq_getElem (by omega)]; simp
      rw [← h1] at h3
      unfold World.cell? at h3
      cases hs : a.spot with
      | none => rfl
      | some q =>
        exfalso
        apply h3
        have : (a.add (0 * P.cellsOf e + 0)).spot = some q := by simp [Addr.add, hs]
        split
        · rw [this]; rfl
        · rfl
    obtain ⟨b, off, sp⟩ := a
    simp only at hspot
    subst hspot
    have hcell2 : ∀ i, i < len → ∀ j, j < P.cellsOf e → W.cell? ⟨b, off + i * P.cellsOf e + j, none⟩ = (f i).2[j]? ∧ (f i).2.length = P.cellsOf e := fun i hi j hj => by
      have := hcell i hi j hj
      rw [add_lit, add_lit] at this
      exact this
    have hlt : b < W.heap.size := by
      obtain ⟨h1, h2⟩ := hcell2 0 (by omega) 0 hpos
      rw [List.getElem?_eq_getElem (by omega)] at h1
      exact World.block_lt_of_cell? W _ h1
    refine ⟨(List.range len).map fun i => (f i).1, .one_mk rfl ?_⟩
    have hlen : (((List.range len).map fun i => (f i).1).map el).length = len := by simp
    have := Rep.ls (w := W) (M := Mall W) (((List.range len).map fun i => (f i).1).map el) b off (P.cellsOf e) m (fun i j => (f i).2.getD j undef) (by rw [hlen]; exact hl) (fun x hx => by
        obtain ⟨y, _, rfl⟩ := List.mem_map.1 hx
        rw [hel, hc]) (fun i j hi hj => hlt) (fun i j hi hj => by
        rw [hlen] at hi
        obtain ⟨h1, h2⟩ := hcell2 i hi j hj
        rw [h1, List.getD_eq_getElem?_getD, List.getElem?_eq_getElem (by omega)]; rfl) (fun i j hi hj => by
        rw [hlen] at hi
        obtain ⟨h1, h2⟩ := hcell2 i hi j hj
        have hg : (f i).2[j]? = some (f i).2[j] := List.getElem?_eq_getElem (by omega)
        rw [List.getD_eq_getElem?_getD, hg]
        exact (hf i hi).2.one j _ hg) (fun i j x y hx hy => by
        rw [List.getElem?_map, List.getElem?_map] at hx
        obtain ⟨z, hz, rfl⟩ := Option.map_eq_some_iff.1 hx
        obtain ⟨i', hi', rfl⟩ := Option.map_eq_some_iff.1 hz
        obtain ⟨hji, hi2⟩ := List.getElem?_eq_some_iff.1 hi'
        rw [List.getElem_range] at hi2
        subst hi2
        rw [List.length_range] at hji
        rw [hel] at hy
        have hj : j < P.cellsOf e := by rw [← hc]; exact (List.getElem?_eq_some_iff.1 hy).1
        obtain ⟨h1, h2⟩ := hcell2 i hji j hj
        have hg : (f i).2[j]? = some (f i).2[j] := List.getElem?_eq_getElem (by omega)
        rw [List.getD_eq_getElem?_getD, hg]
        exact (hf i hji).2.rep j y _ hy hg)
    rw [hlen] at this
    exact this
theorem RepL.app {ts us : List T} {cs ds : List Value} (h : RepL W ts cs) (k : RepL W us ds) : RepL W (ts ++ us) (cs ++ ds) := by
  refine ⟨by simp [h.len, k.len], fun j v hv => ?_, fun j y v hy hv => ?_⟩
  · rcases Nat.lt_or_ge j cs.length with hj | hj
    · rw [List.getElem?_append_left hj] at hv; exact h.one j v hv
    · rw [List.getElem?_append_right hj] at hv; exact k.one _ v hv
  · rcases Nat.lt_or_ge j cs.length with hj | hj
    · rw [List.getElem?_append_left hj] at hv
      rw [List.getElem?_append_left (by rw [← h.len]; exact hj)] at hy
      exact h.rep j y v hy hv
    · rw [List.getElem?_append_right hj] at hv
      rw [List.getElem?_append_right (by rw [← h.len]; exact hj), ← h.len] at hy
      exact k.rep _ y v hy hv
/-- The fields from a place on. -/
def OpensF {α : Type} (enc : TypeId × Value → H) (P : Program) (W : World) (fs : List Field) (off : Nat) (e : α → List T) : Prop :=
  ∀ (n : Nat) (cs : List Value), cs.length = off + (fs.map fun f => P.cellsOf f.type).sum → (∀ f, f ∈ fs → ∃ x, DataW.trod enc P W 0 (fun _ => true) true n f.type ((cs.drop f.offset).take (P.cellsOf f.type)) = some x) → ∃ a : α, RepL W (e a) (cs.drop off)
theorem OpensF.nil {off : Nat} : OpensF enc P W [] off (fun _ : Unit => []) := fun n cs hl _ => ⟨(), by
  rw [List.drop_of_length_le (by simp at hl; omega)]
  exact ⟨rfl, fun j v hv => by simp at hv, fun j y v hy hv => by simp at hv⟩⟩
theorem OpensF.cons {α β : Type} {f : Field} {fs : List Field} {off k : Nat} {e : α → List T} {e2 : β → List T} (ho : f.offset = off) (hk : P.cellsOf f.type = k) (hd : Opens enc P W f.type e) (h : OpensF enc P W fs (off + k) e2) :
    OpensF enc P W (f :: fs) off (fun p : α × β => e p.1 ++ e2 p.2) := fun n cs hl hx => by
  subst ho; subst hk
  obtain ⟨x, hx1⟩ := hx f (List.mem_cons_self ..)
  obtain ⟨a, ha⟩ := hd _ _ _ hx1
  obtain ⟨b, hb⟩ := h n cs (by simp at hl; omega) (fun g hg => hx g (List.mem_cons_of_mem _ hg))
  refine ⟨(a, b), ?_⟩
  have := ha.app hb
  rwa [← List.drop_drop, List.take_append_drop] at this
theorem opens_struct {α : Type} {t : TypeId} {fs : List Field} {e : α → List T} (ht : P.underlying t = some (.struct fs.toArray)) (hc : P.cellsOf t = (fs.map fun f => P.cellsOf f.type).sum) (h : OpensF enc P W fs 0 e) : Opens enc P W t e := fun n cs x hx => by
  obtain ⟨xs, n', _, _, hl, hlen, hf⟩ := DataW.trod_struct ht hx
  obtain ⟨a, ha⟩ := h n' cs (by omega) (fun f hm => by
    obtain ⟨i, hi, he⟩ := List.getElem_of_mem hm
    have h1 := hf i f (by simp [he, List.getElem?_eq_getElem hi])
    have hi2 : i < xs.length := by rw [hlen]; simpa using hi
    exact ⟨xs[i], by rw [h1]; exact List.getElem?_eq_getElem hi2⟩)
  exact ⟨a, by simpa using ha⟩
theorem Opens.map {α β : Type} {t : TypeId} {e : α → List T} {e' : β → List T} (g : α → β) (hg : ∀ a, e' (g a) = e a) (h : Opens enc P W t e) : Opens enc P W t e' := fun n cs x hx => by
  obtain ⟨a, ha⟩ := h n cs x hx
  exact ⟨g a, by rw [hg]; exact ha⟩
/-- An argument that is a struct. -/
theorem arg_ag {α : Type} {t : TypeId} {e : α → List T} (h : Opens enc P W t e) {v : Value} {cs : Array Value} (hv : v = .agg cs) {d : DataW H} {p : List MemPlace} (ht : DataW.Trod enc P W 0 (fun _ => true) true t v d p) : ∃ a : α, Rep W (Mall W) (.ag (e a)) v := by
  subst hv
  obtain ⟨n, hn⟩ := ht
  obtain ⟨a, ha⟩ := h _ _ _ hn
  have ha : RepL W (e a) cs.toList := ha
  exact ⟨a, .ag _ _ (by simpa using ha.len) (fun i v hv => ha.one i v (by simpa using hv)) (fun i x v hx hv => ha.rep i x v hx (by simpa using hv))⟩
theorem arg_one {α : Type} {t : TypeId} {e : α → T} (h : Opens enc P W t (fun a => [e a])) {v : Value} (hv : v.cells.toList = [v]) {d : DataW H} {p : List MemPlace} (ht : DataW.Trod enc P W 0 (fun _ => true) true t v d p) : ∃ a : α, Rep W (Mall W) (e a) v := by
  obtain ⟨n, hn⟩ := ht
  obtain ⟨a, ha⟩ := h _ _ _ hn
  rw [hv] at ha
  exact ⟨a, ha.rep 0 _ _ rfl rfl⟩
/-- A contract whose result is told, at arguments that came in as data. -/
theorem Fn.row {G : World → Prop} {f : FuncId} {ts : List T} {r : AV} {v : Value} (hf : Fn P G f (ts.map .tr) [] (· = r)) (hr : pvA r = some v) {cargs : Array Value} (hs : cargs.size = ts.length) (ha : ∀ (i : Nat) (t : T) (u : Value), ts[i]? = some t → cargs[i]? = some u → Rep W (Mall W) t u) (hG : G W) :
    Calls P f cargs W fun e W' => e = .returned v ∧ Below W.heap.size W W' := by
  have hp : CPre P (Mall W) (fun _ _ => none) (ts.map .tr) [] cargs W :=
    { size := by simp [hs], arg := fun i x u hx hu => by
        rw [List.getElem?_map] at hx
        obtain ⟨t, ht, rfl⟩ := Option.map_eq_some_iff.1 hx
        exact .tr _ _ (ha i t u ht hu)
      blk := fun κ v h => (nomatch h), only := fun _ _ _ h => (nomatch h), inj := fun _ _ _ _ _ h => (nomatch h), lt := fun _ _ _ h => (nomatch h), mlt := fun _ _ h => h }
  refine (hf.2 (Mall W) (fun _ _ => none) W cargs hG hp).mono ?_
  rintro e w' ⟨cv, rfl, hb, M', r', o, rfl, -, -, -, -, hs⟩
  exact ⟨by rw [pvA_uniq hr hs], hb⟩
end
end Go.Lg

namespace Go.Lg.Cuts
open Go Go.RowKit

/-- The blocks of a set lie as they lay. -/
structure Keeps (S : Nat → Prop) (W W' : World) : Prop where
  size : W.heap.size ≤ W'.heap.size
  block : ∀ r, S r → r < W.heap.size → W'.heap[r]? = W.heap[r]?
theorem Keeps.refl (S : Nat → Prop) (W : World) : Keeps S W W := ⟨Nat.le_refl _, fun _ _ _ => rfl⟩
theorem Keeps.trans {S : Nat → Prop} {A W C : World} (h : Keeps S A W) (k : Keeps S W C) : Keeps S A C :=
  ⟨Nat.le_trans h.size k.size, fun r hb hr => (k.block r hb (Nat.lt_of_lt_of_le hr h.size)).trans (h.block r hb hr)⟩
theorem Keeps.mono {S S' : Nat → Prop} {A W : World} (h : Keeps S A W) (hs : ∀ r, S' r → S r) : Keeps S' A W := ⟨h.size, fun r hb hr => h.block r (hs r hb) hr⟩
theorem Keeps.below {S : Nat → Prop} {A W : World} (h : Below A.heap.size A W) : Keeps S A W := ⟨h.size, fun r _ hr => h.block r hr⟩
theorem Keeps.alloc (S : Nat → Prop) (W : World) (o : Obj) : Keeps S W (W.alloc o) := Keeps.below ((Below.refl _ W).alloc (Nat.le_refl _) o)
theorem Keeps.cell {S : Nat → Prop} {W W' : World} (h : Keeps S W W') {p : Addr} {v : Value} (hb : S p.block) (hc : W.cell? p = some v) : W'.cell? p = some v := by
  have hlt := World.block_lt_of_cell? W p hc
  unfold World.cell? at hc ⊢
  rw [h.block _ hb hlt]; exact hc

/-- What an invariant abides: new blocks, the box's turn, a turn of what is no cells from E on. -/
def Shape (W W' : World) : Prop := ∀ (b : Nat) (cs : Array Value) (ty : TypeId) (z : Nat × Nat), W.heap[b]? = some (Obj.cells cs ty z) → ∃ cs' : Array Value, W'.heap[b]? = some (Obj.cells cs' ty z) ∧ cs'.size = cs.size
theorem Shape.setCell (W : World) (p : Addr) (v : Value) : Shape W (W.setCell p v) := fun b cs ty z h => by
  simp only [World.setCell, Array.getElem?_modify, h]
  by_cases e : p.block = b
  · rw [if_pos e]
    refine ⟨_, rfl, ?_⟩
    split <;> simp
  · rw [if_neg e]; exact ⟨cs, rfl, rfl⟩
theorem Shape.alloc (W : World) (o : Obj) : Shape W (W.alloc o) := fun b cs ty z h => ⟨cs, (Below.heap_alloc _ _ _ (Array.getElem?_eq_some_iff.1 h).1).trans h, rfl⟩
theorem Shape.put {W : World} {l : Nat} {o : Obj} (o' : Obj) (hl : W.heap[l]? = some o) (hc : o.isCells = false) : Shape W (W.putObj l o') := fun b cs ty z h => by
  by_cases e : b = l
  · subst e; rw [h] at hl; obtain rfl := Option.some.inj hl; cases hc
  · exact ⟨cs, (World.putObj_heap_other e).trans h, rfl⟩
def Turn (b : Nat) (W W' : World) : Prop := W.grownBy W' (some b) ∧ Shape W W'
def Harm (b E : Nat) (W W' : World) : Prop := ∃ row, W.grownBy W' row ∧ Shape W W' ∧ ∀ r, row = some r → r = b ∨ (E ≤ r ∧ ∃ o o', W.heap[r]? = some o ∧ W'.heap[r]? = some o' ∧ o.isCells = false ∧ o'.isCells = false)
def Hold (b E : Nat) (I : Nat → World → Prop) : Prop := ∀ k W W', I k W → Harm b E W W' → I k W'
def HoldB (b : Nat) (I : Nat → World → Prop) : Prop := ∀ k W W', I k W → Turn b W W' → I k W'
theorem Hold.and {b E : Nat} {I I' : Nat → World → Prop} (h : Hold b E I) (h' : Hold b E I') : Hold b E (fun k W => I k W ∧ I' k W) :=
  fun k W W' hs hg => ⟨h k W W' hs.1 hg, h' k W W' hs.2 hg⟩
theorem Hold.pure (b E : Nat) (p : Nat → Prop) : Hold b E (fun k _ => p k) := fun _ _ _ h _ => h
theorem grownBy_put (W : World) (l : Nat) (o : Obj) : W.grownBy (W.putObj l o) (some l) := grownBy_putObj' W l o
theorem Hold.put {b E : Nat} {I : Nat → World → Prop} (h : Hold b E I) {k : Nat} {W : World} {l : Nat} {o : Obj} (o' : Obj) (hi : I k W) (he : E ≤ l) (hl : W.heap[l]? = some o) (hc : o.isCells = false) (hc' : o'.isCells = false) : I k (W.putObj l o') :=
  h k W _ hi ⟨some l, grownBy_put W l o', Shape.put o' hl hc, fun r e => .inr (by cases e; exact ⟨he, o, o', hl, World.putObj_heap_same (Array.getElem?_eq_some_iff.1 hl).1, hc, hc'⟩)⟩
theorem Hold.new {b E : Nat} {I : Nat → World → Prop} (h : Hold b E I) {k : Nat} {W : World} (o : Obj) (hi : I k W) : I k (W.alloc o) :=
  h k W _ hi ⟨none, ((Below.refl _ W).alloc (Nat.le_refl _) o) |> fun hb => ⟨hb.os, hb.tape, hb.output, hb.size, fun i hi _ => hb.block i hi⟩, Shape.alloc _ _, fun r e => by cases e⟩

def cutPost (S : Nat → Prop) (I : Nat → World → Prop) (Ix : Code → Nat → World → Prop) (k : Nat) (W : World) : Exit → Act → World → Prop
  | .normal, _, W' => Keeps S W W' ∧ I (k + 1) W'
  | .ret, _, W' => Keeps S W W' ∧ Ix .ret (k + 1) W'
  | .exit id, _, W' => Keeps S W W' ∧ Ix (.exit id) (k + 1) W'
  | .goto t, _, W' => Keeps S W W' ∧ Ix (.goto t) (k + 1) W'
  | .panic _, _, _ => False
  | .outgrown, _, _ => False

/-- The iterator's contract: for whatever rounds. -/
def Iter (F : Fence) (n : Nat) (P : Program) (gf : Nat) (lb : Array Value) (S : Nat → Prop) (B : Nat) (xs : List Value) (w : World) : Prop :=
  ∀ (l : Nat) (J Jx : Nat → World → Prop) (W : World), Keeps S w W → HoldB B J → HoldB B Jx →
    (∀ k W1 v, J k W1 → xs[k]? = some v → YieldAt F (n - 1) P l #[v] W1 fun e W' => (e = .returned (.bool true) ∧ J (k + 1) W' ∧ Keeps S W1 W') ∨ (e = .returned (.bool false) ∧ Jx (k + 1) W')) →
    J 0 W →
    CallsIn F n P gf (#[.func (.yield l) #[] #[]] ++ lb) W fun e W' => (∃ v, e = .returned v) ∧ (J xs.length W' ∨ ∃ k, Jx k W')

variable {F : Fence} {n : Nat} {P : Program}
theorem range_cuts {g : Operand} {ps : Array Tmp} {assign body : Code} {Q : Exit → Act → World → Prop} {a : Act} {w : World}
    (hro : F.round = none) (h1 : 1 ≤ n) {gf : Nat} {lb : Array Value} (hg : a.eval g = .func (.func gf) #[] lb) (hFg : F.fn gf) (eg : ∀ args w, (callFunc gf args).run P w = .ok (.enter gf args) w)
    {S : Nat → Prop} {B : Nat} {xs : List Value} (hS : ∀ r, S r → r < w.heap.size) (hB : B < w.heap.size) (hseq : Iter F (n - 1) P gf lb S B xs w) (hps : ps.size = 1)
    (I : Nat → World → Prop) (Ix : Code → Nat → World → Prop) (hI : Hold B w.heap.size I) (hIx : ∀ c, Hold B w.heap.size (Ix c)) (h0 : I 0 w) (a₁ : Value → Act)
    (hassign : ∀ (l : Nat) (v : Value) (W : World) (K : Act → World → Prop), K (a₁ v) W →
      assign.wpIn (F.inRound l) (n - 1 - 1) P (Exit.then K (fun _ _ _ => False)) { tmps := (ps.zip #[v]).foldl (fun t (p, v) => t.setIfInBounds p v) a.tmps, defers := [] } W)
    (hbody : ∀ (l k : Nat) (v : Value) (W : World), I k W → xs[k]? = some v → w.heap.size + 1 < W.heap.size → l = w.heap.size + 1 → (∃ r, W.heap[l]? = some (.loop r)) → W.heap[w.heap.size]? = some (.deferred (some [])) → body.wpIn (F.inRound l) (n - 1 - 1) P (cutPost (fun r => S r ∨ r = w.heap.size ∨ r = w.heap.size + 1) I Ix k W) (a₁ v) W)
    (hdone : ∀ (D : Nat) (W : World), I xs.length W → W.heap[D]? = some (.deferred (some [])) → w.heap.size ≤ D → Q .normal { a with defers := { target := .collected D, args := #[] } :: a.defers } W)
    (hstop : ∀ (D : Nat) (c : Code) (k : Nat) (W : World), Ix c k W → W.heap[D]? = some (.deferred (some [])) → w.heap.size ≤ D → c.wpIn F n P Q { a with defers := { target := .collected D, args := #[] } :: a.defers } W) :
    (Code.rangeFunc g ps assign body).wpIn F n P Q a w := by
  refine wpIn_rangeFunc ?_
  intro fn hfn
  rw [hro]
  obtain ⟨rec, hrec⟩ : ∃ rec : LoopState → Option Code → Loop, rec = fun st pe => { state := st, pending := pe, fn, tmps := a.tmps, params := ps, assign, body, defers := w.heap.size } := ⟨_, rfl⟩
  obtain ⟨W1, hW1⟩ : ∃ W1, (w.alloc (.deferred (some []))).alloc (.loop (rec .ready none)) = W1 := ⟨_, rfl⟩
  have hz1 : W1.heap.size = w.heap.size + 2 := by rw [← hW1]; simp
  have hL1 : W1.heap[w.heap.size + 1]? = some (.loop (rec .ready none)) := by
    rw [← hW1]; have := World.alloc_heap_new (w.alloc (.deferred (some []))) (.loop (rec .ready none)); rwa [World.size_alloc] at this
  have hK1 : W1.heap[w.heap.size]? = some (.deferred (some [])) := by
    rw [← hW1]; exact (Below.heap_alloc _ _ _ (by simp)).trans (World.alloc_heap_new w _)
  have hI1 : I 0 W1 := by rw [← hW1]; exact hI.new _ (hI.new _ h0)
  have hk1 : Keeps S w W1 := by rw [← hW1]; exact (Keeps.alloc _ _ _).trans (Keeps.alloc _ _ _)
  refine ⟨w.heap.size + 1, [{ target := .collected w.heap.size, args := #[] }], W1, { target := .fn (.func gf) lb, args := #[.func (.yield (w.heap.size + 1)) #[] #[]] }, W1, gf,
    #[.func (.yield (w.heap.size + 1)) #[] #[]] ++ lb, W1, ?_, ?_, ?_, ?_, fun _ => h1, ?_⟩
  · rw [← hW1, hrec]; exact run_enterLoop_outer _ _ _ _ _
  · simp only [resolve, hg]
    simp [go_sem]
  · intro f' hf'; simp [Target.leads] at hf'; subst hf'; exact hFg
  · simp [invoke, go_sem, eg]
  · -- the invariant with the loop's two blocks beside it
    have hgb : ∀ {W W' : World}, Turn B W W' → Harm B w.heap.size W W' := fun h => ⟨some B, h.1, h.2, fun r e => .inl (by cases e; rfl)⟩
    have hst : ∀ {W W' : World} {r : Nat} {o : Obj}, Turn B W W' → w.heap.size ≤ r → W.heap[r]? = some o → W'.heap[r]? = some o :=
      fun {W W' r o} h hr hl => (h.1.block r (Array.getElem?_eq_some_iff.1 hl).1 (by intro e; cases e; omega)).trans hl
    refine (hseq (w.heap.size + 1)
      (fun k W => I k W ∧ W.heap[w.heap.size + 1]? = some (.loop (rec .ready none)) ∧ W.heap[w.heap.size]? = some (.deferred (some [])))
      (fun k W => ∃ c, Ix c k W ∧ W.heap[w.heap.size + 1]? = some (.loop (rec .done (some c))) ∧ W.heap[w.heap.size]? = some (.deferred (some [])))
      W1 hk1
      (fun k A C hs hg' => ⟨hI k A C hs.1 (hgb hg'), hst hg' (by omega) hs.2.1, hst hg' (Nat.le_refl _) hs.2.2⟩)
      (fun k A C hs hg' => by
        obtain ⟨c, hc, hl, hk⟩ := hs
        exact ⟨c, hIx c k A C hc (hgb hg'), hst hg' (by omega) hl, hst hg' (Nat.le_refl _) hk⟩)
      ?_ ⟨hI1, hL1, hK1⟩).mono ?_
    · -- one round
      rintro k W v ⟨hi, hl, hk⟩ hv
      have hlt : w.heap.size + 1 < W.heap.size := (Array.getElem?_eq_some_iff.1 hl).1
      have hy := run_yield (P := P) (args := #[v]) hl (by rw [hrec]; exact hps.symm)
      rw [hrec] at hy
      refine ⟨fn, _, assign, body, hy, roundIn_of_wpIn hfn (hassign _ v W _ ⟨_, run_beginRound hl (by rw [hrec]), ?_⟩)⟩
      have hl2 : (W.putObj (w.heap.size + 1) (.loop { rec .ready none with state := .busy })).heap[w.heap.size + 1]? = some (.loop { rec .ready none with state := .busy }) := World.putObj_heap_same hlt
      have hk2 : (W.putObj (w.heap.size + 1) (.loop { rec .ready none with state := .busy })).heap[w.heap.size]? = some (.deferred (some [])) := (World.putObj_heap_other (by omega)).trans hk
      have hz2 : (W.putObj (w.heap.size + 1) (.loop { rec .ready none with state := .busy })).heap.size = W.heap.size := World.putObj_size
      have hi2 := hI.put (.loop { rec .ready none with state := .busy }) hi (Nat.le_succ _) hl rfl (by rfl)
      refine wpIn_mono (hbody _ k v _ hi2 hv (by rw [hz2]; omega) rfl ⟨_, hl2⟩ hk2) ?_
      have fin : ∀ (jump : Option Code) (W3 : World), Keeps (fun r => S r ∨ r = w.heap.size ∨ r = w.heap.size + 1) (W.putObj (w.heap.size + 1) (.loop { rec .ready none with state := .busy })) W3 →
          (Instr.endRound (w.heap.size + 1) jump).run P W3 = .ok (.bool jump.isNone) (W3.putObj (w.heap.size + 1) (.loop (rec (if jump.isNone then .ready else .done) jump))) ∧
          W3.heap[w.heap.size + 1]? = some (.loop { rec .ready none with state := .busy }) ∧
          (W3.putObj (w.heap.size + 1) (.loop (rec (if jump.isNone then .ready else .done) jump))).heap[w.heap.size + 1]? = some (.loop (rec (if jump.isNone then .ready else .done) jump)) ∧
          (W3.putObj (w.heap.size + 1) (.loop (rec (if jump.isNone then .ready else .done) jump))).heap[w.heap.size]? = some (.deferred (some [])) := fun jump W3 hk3 => by
        have hl3 := (hk3.block _ (.inr (.inr rfl)) (by rw [hz2]; omega)).trans hl2
        have hd3 := (hk3.block _ (.inr (.inl rfl)) (by rw [hz2]; omega)).trans hk2
        have := run_endRound (P := P) jump hl3
        rw [hrec] at this ⊢
        exact ⟨this, by rw [hrec] at hl3; exact hl3, World.putObj_heap_same (Array.getElem?_eq_some_iff.1 hl3).1, (World.putObj_heap_other (by omega)).trans hd3⟩
      have keep : ∀ (W3 : World) (o : Obj), Keeps (fun r => S r ∨ r = w.heap.size ∨ r = w.heap.size + 1) (W.putObj (w.heap.size + 1) (.loop { rec .ready none with state := .busy })) W3 →
          o = .loop (rec .ready none) → Keeps S W (W3.putObj (w.heap.size + 1) o) := fun W3 o hk3 ho => by
        refine ⟨by rw [World.putObj_size]; have := hk3.size; rw [hz2] at this; exact this, fun r hb hr => ?_⟩
        by_cases e : r = w.heap.size + 1
        · subst e; rw [World.putObj_heap_same (Nat.lt_of_lt_of_le hlt (by have := hk3.size; rw [hz2] at this; exact this)), ho]; exact hl.symm
        · rw [World.putObj_heap_other e, hk3.block r (.inl hb) (by rw [hz2]; exact hr), World.putObj_heap_other e]
      rintro e a3 W3 hp
      cases e with
      | normal =>
        obtain ⟨hk3, hi3⟩ := hp
        obtain ⟨hr, hl3, hl4, hk4⟩ := fin none W3 hk3
        exact ⟨_, _, hr, .inl ⟨rfl, ⟨hI.put _ hi3 (Nat.le_succ _) hl3 rfl (by rfl), hl4, hk4⟩, keep W3 _ hk3 (by simp)⟩⟩
      | ret =>
        obtain ⟨hk3, hi3⟩ := hp
        obtain ⟨hr, hl3, hl4, hk4⟩ := fin (some .ret) W3 hk3
        exact ⟨_, _, hr, .inr ⟨rfl, .ret, (hIx _).put _ hi3 (Nat.le_succ _) hl3 rfl (by rfl), hl4, hk4⟩⟩
      | exit id =>
        obtain ⟨hk3, hi3⟩ := hp
        obtain ⟨hr, hl3, hl4, hk4⟩ := fin (some (.exit id)) W3 hk3
        exact ⟨_, _, hr, .inr ⟨rfl, .exit id, (hIx _).put _ hi3 (Nat.le_succ _) hl3 rfl (by rfl), hl4, hk4⟩⟩
      | goto t =>
        obtain ⟨hk3, hi3⟩ := hp
        obtain ⟨hr, hl3, hl4, hk4⟩ := fin (some (.goto t)) W3 hk3
        exact ⟨_, _, hr, .inr ⟨rfl, .goto t, (hIx _).put _ hi3 (Nat.le_succ _) hl3 rfl (by rfl), hl4, hk4⟩⟩
      | panic ch => exact hp.elim
      | outgrown => exact hp.elim
    · -- behind the iterator
      rintro e W2 ⟨⟨v, rfl⟩, (⟨hi, hl, hk⟩ | ⟨k, c, hi, hl, hk⟩)⟩
      · exact ⟨none, _, by have := run_endLoop (P := P) hl (by rw [hrec]; simp); rw [hrec] at this; exact this, hdone _ _ (hI.put _ hi (Nat.le_succ _) hl rfl (by rfl)) ((World.putObj_heap_other (by omega)).trans hk) (Nat.le_refl _)⟩
      · exact ⟨some c, _, by have := run_endLoop (P := P) hl (by rw [hrec]; simp); rw [hrec] at this; exact this, hstop _ c k _ ((hIx c).put _ hi (Nat.le_succ _) hl rfl (by rfl)) ((World.putObj_heap_other (by omega)).trans hk) (Nat.le_refl _)⟩
theorem range_cutsN {l₀ : Nat} {r₀ : Loop} {g : Operand} {ps : Array Tmp} {assign body : Code} {Q : Exit → Act → World → Prop} {a : Act} {w : World}
    (hro : F.round = some l₀) (hl₀ : w.heap[l₀]? = some (.loop r₀)) (h1 : 1 ≤ n) {gf : Nat} {lb : Array Value} (hg : a.eval g = .func (.func gf) #[] lb) (hFg : F.fn gf) (eg : ∀ args w, (callFunc gf args).run P w = .ok (.enter gf args) w)
    {S : Nat → Prop} {B : Nat} {xs : List Value} (hS : ∀ r, S r → r < w.heap.size) (hB : B < w.heap.size) (hseq : Iter F (n - 1) P gf lb S B xs w) (hps : ps.size = 1)
    (I : Nat → World → Prop) (Ix : Code → Nat → World → Prop) (hI : Hold B w.heap.size I) (hIx : ∀ c, Hold B w.heap.size (Ix c)) (h0 : I 0 w) (a₁ : Value → Act)
    (hassign : ∀ (l : Nat) (v : Value) (W : World) (K : Act → World → Prop), K (a₁ v) W →
      assign.wpIn (F.inRound l) (n - 1 - 1) P (Exit.then K (fun _ _ _ => False)) { tmps := (ps.zip #[v]).foldl (fun t (p, v) => t.setIfInBounds p v) a.tmps, defers := [] } W)
    (hbody : ∀ (l k : Nat) (v : Value) (W : World), I k W → xs[k]? = some v → w.heap.size < W.heap.size → l = w.heap.size → (∃ r, W.heap[l]? = some (.loop r)) → body.wpIn (F.inRound l) (n - 1 - 1) P (cutPost (fun r => S r ∨ r = w.heap.size) I Ix k W) (a₁ v) W)
    (hdone : ∀ (W : World), I xs.length W → Q .normal a W)
    (hstop : ∀ (c : Code) (k : Nat) (W : World), Ix c k W → c.wpIn F n P Q a W) :
    (Code.rangeFunc g ps assign body).wpIn F n P Q a w := by
  refine wpIn_rangeFunc ?_
  intro fn hfn
  rw [hro]
  obtain ⟨rec, hrec⟩ : ∃ rec : LoopState → Option Code → Loop, rec = fun st pe => { state := st, pending := pe, fn, tmps := a.tmps, params := ps, assign, body, defers := r₀.defers } := ⟨_, rfl⟩
  obtain ⟨W1, hW1⟩ : ∃ W1, w.alloc (.loop (rec .ready none)) = W1 := ⟨_, rfl⟩
  have hz1 : W1.heap.size = w.heap.size + 1 := by rw [← hW1]; simp
  have hL1 : W1.heap[w.heap.size]? = some (.loop (rec .ready none)) := by rw [← hW1]; exact World.alloc_heap_new w _
  have hI1 : I 0 W1 := by rw [← hW1]; exact hI.new _ h0
  have hk1 : Keeps S w W1 := by rw [← hW1]; exact Keeps.alloc _ _ _
  refine ⟨w.heap.size, [], W1, { target := .fn (.func gf) lb, args := #[.func (.yield w.heap.size) #[] #[]] }, W1, gf,
    #[.func (.yield w.heap.size) #[] #[]] ++ lb, W1, ?_, ?_, ?_, ?_, fun _ => h1, ?_⟩
  · rw [← hW1, hrec]; exact run_enterLoop_inner hl₀ _ _ _ _ _
  · simp only [resolve, hg]
    simp [go_sem]
  · intro f' hf'; simp [Target.leads] at hf'; subst hf'; exact hFg
  · simp [invoke, go_sem, eg]
  · have hgb : ∀ {W W' : World}, Turn B W W' → Harm B w.heap.size W W' := fun h => ⟨some B, h.1, h.2, fun r e => .inl (by cases e; rfl)⟩
    have hst : ∀ {W W' : World} {r : Nat} {o : Obj}, Turn B W W' → w.heap.size ≤ r → W.heap[r]? = some o → W'.heap[r]? = some o :=
      fun {W W' r o} h hr hl => (h.1.block r (Array.getElem?_eq_some_iff.1 hl).1 (by intro e; cases e; omega)).trans hl
    refine (hseq w.heap.size
      (fun k W => I k W ∧ W.heap[w.heap.size]? = some (.loop (rec .ready none)))
      (fun k W => ∃ c, Ix c k W ∧ W.heap[w.heap.size]? = some (.loop (rec .done (some c))))
      W1 hk1
      (fun k A C hs hg' => ⟨hI k A C hs.1 (hgb hg'), hst hg' (Nat.le_refl _) hs.2⟩)
      (fun k A C hs hg' => by
        obtain ⟨c, hc, hl⟩ := hs
        exact ⟨c, hIx c k A C hc (hgb hg'), hst hg' (Nat.le_refl _) hl⟩)
      ?_ ⟨hI1, hL1⟩).mono ?_
    · rintro k W v ⟨hi, hl⟩ hv
      have hlt : w.heap.size < W.heap.size := (Array.getElem?_eq_some_iff.1 hl).1
      have hy := run_yield (P := P) (args := #[v]) hl (by rw [hrec]; exact hps.symm)
      rw [hrec] at hy
      refine ⟨fn, _, assign, body, hy, roundIn_of_wpIn hfn (hassign _ v W _ ⟨_, run_beginRound hl (by rw [hrec]), ?_⟩)⟩
      have hl2 : (W.putObj w.heap.size (.loop { rec .ready none with state := .busy })).heap[w.heap.size]? = some (.loop { rec .ready none with state := .busy }) := World.putObj_heap_same hlt
      have hz2 : (W.putObj w.heap.size (.loop { rec .ready none with state := .busy })).heap.size = W.heap.size := World.putObj_size
      have hi2 := hI.put (.loop { rec .ready none with state := .busy }) hi (Nat.le_refl _) hl rfl (by rfl)
      refine wpIn_mono (hbody _ k v _ hi2 hv (by rw [hz2]; omega) rfl ⟨_, hl2⟩) ?_
      have fin : ∀ (jump : Option Code) (W3 : World), Keeps (fun r => S r ∨ r = w.heap.size) (W.putObj w.heap.size (.loop { rec .ready none with state := .busy })) W3 →
          (Instr.endRound w.heap.size jump).run P W3 = .ok (.bool jump.isNone) (W3.putObj w.heap.size (.loop (rec (if jump.isNone then .ready else .done) jump))) ∧
          W3.heap[w.heap.size]? = some (.loop { rec .ready none with state := .busy }) ∧
          (W3.putObj w.heap.size (.loop (rec (if jump.isNone then .ready else .done) jump))).heap[w.heap.size]? = some (.loop (rec (if jump.isNone then .ready else .done) jump)) := fun jump W3 hk3 => by
        have hl3 := (hk3.block _ (.inr rfl) (by rw [hz2]; omega)).trans hl2
        have := run_endRound (P := P) jump hl3
        rw [hrec] at this ⊢
        exact ⟨this, by rw [hrec] at hl3; exact hl3, World.putObj_heap_same (Array.getElem?_eq_some_iff.1 hl3).1⟩
      have keep : ∀ (W3 : World) (o : Obj), Keeps (fun r => S r ∨ r = w.heap.size) (W.putObj w.heap.size (.loop { rec .ready none with state := .busy })) W3 →
          o = .loop (rec .ready none) → Keeps S W (W3.putObj w.heap.size o) := fun W3 o hk3 ho => by
        refine ⟨by rw [World.putObj_size]; have := hk3.size; rw [hz2] at this; exact this, fun r hb hr => ?_⟩
        by_cases e : r = w.heap.size
        · subst e; rw [World.putObj_heap_same (Nat.lt_of_lt_of_le hlt (by have := hk3.size; rw [hz2] at this; exact this)), ho]; exact hl.symm
        · rw [World.putObj_heap_other e, hk3.block r (.inl hb) (by rw [hz2]; exact hr), World.putObj_heap_other e]
      rintro e a3 W3 hp
      cases e with
      | normal =>
        obtain ⟨hk3, hi3⟩ := hp
        obtain ⟨hr, hl3, hl4⟩ := fin none W3 hk3
        exact ⟨_, _, hr, .inl ⟨rfl, ⟨hI.put _ hi3 (Nat.le_refl _) hl3 rfl (by rfl), hl4⟩, keep W3 _ hk3 (by simp)⟩⟩
      | ret =>
        obtain ⟨hk3, hi3⟩ := hp
        obtain ⟨hr, hl3, hl4⟩ := fin (some .ret) W3 hk3
        exact ⟨_, _, hr, .inr ⟨rfl, .ret, (hIx _).put _ hi3 (Nat.le_refl _) hl3 rfl (by rfl), hl4⟩⟩
      | exit id =>
        obtain ⟨hk3, hi3⟩ := hp
        obtain ⟨hr, hl3, hl4⟩ := fin (some (.exit id)) W3 hk3
        exact ⟨_, _, hr, .inr ⟨rfl, .exit id, (hIx _).put _ hi3 (Nat.le_refl _) hl3 rfl (by rfl), hl4⟩⟩
      | goto t =>
        obtain ⟨hk3, hi3⟩ := hp
        obtain ⟨hr, hl3, hl4⟩ := fin (some (.goto t)) W3 hk3
        exact ⟨_, _, hr, .inr ⟨rfl, .goto t, (hIx _).put _ hi3 (Nat.le_refl _) hl3 rfl (by rfl), hl4⟩⟩
      | panic ch => exact hp.elim
      | outgrown => exact hp.elim
    · rintro e W2 ⟨⟨v, rfl⟩, (⟨hi, hl⟩ | ⟨k, c, hi, hl⟩)⟩
      · exact ⟨none, _, by have := run_endLoop (P := P) hl (by rw [hrec]; simp); rw [hrec] at this; exact this, hdone _ (hI.put _ hi (Nat.le_refl _) hl rfl (by rfl))⟩
      · exact ⟨some c, _, by have := run_endLoop (P := P) hl (by rw [hrec]; simp); rw [hrec] at this; exact this, hstop c k _ ((hIx c).put _ hi (Nat.le_refl _) hl rfl (by rfl))⟩
theorem Iter.inRound {gf : Nat} {lb : Array Value} {S : Nat → Prop} {B : Nat} {xs : List Value} {w : World} (l : Nat) (h : Iter F n P gf lb S B xs w) : Iter (F.inRound l) n P gf lb S B xs w := h
end Go.Lg.Cuts

set_option linter.unusedVariables false
set_option linter.unusedSimpArgs false
namespace Go.Lg
open Go Go.RowKit Go.Lg.Cuts

theorem Fr.trans {w0 W W' : World} {o0 o1 : Nat → Prop} {M0 M1 : Nat → Nat → Prop} (h : Fr w0 o0 M0 W) (k : Fr W o1 M1 W') (ho : ∀ b, o1 b → o0 b ∨ w0.heap.size ≤ b) (hM : ∀ b o, M0 b o → M1 b o) : Fr w0 o0 M0 W' := {
  os := k.os.trans h.os
  tape := k.tape.trans h.tape
  output := k.output.trans h.output
  size := Nat.le_trans h.size k.size
  block := fun b hb hn => (k.block b (Nat.lt_of_lt_of_le hb h.size) (fun h1 => by rcases ho b h1 with h2 | h2; exact hn h2; omega)).trans (h.block b hb hn)
  shape := fun b cs ty z hz => by
    obtain ⟨cs1, h1, h2⟩ := h.shape b cs ty z hz
    obtain ⟨cs2, h3, h4⟩ := k.shape b cs1 ty z h1
    exact ⟨cs2, h3, h4.trans h2⟩
  keep := fun b o hb => (k.keep b o (hM b o hb)).trans (h.keep b o hb) }

mutual
def AV.refsIn (ps : List Loc) : AV → Bool
  | .ptr k _ => ps.any (fun p => p.eqb k)
  | .sl k _ _ => ps.any (fun p => p.eqb k)
  | .agg xs => refsInL ps xs
  | .tup xs => refsInL ps xs
  | .fn _ xs => refsInL ps xs
  | .blk _ xs => refsInL ps xs
  | _ => true
def refsInL (ps : List Loc) : List AV → Bool
  | [] => true
  | x :: xs => x.refsIn ps && refsInL ps xs
end
theorem refsInL_mem {ps : List Loc} : ∀ {xs : List AV} {x : AV}, refsInL ps xs = true → x ∈ xs → x.refsIn ps = true
  | y :: ys, x, h, hx => by
    simp only [refsInL, Bool.and_eq_true] at h
    rcases List.mem_cons.1 hx with rfl | hx
    · exact h.1
    · exact refsInL_mem h.2 hx
theorem refsIn_of {ps : List Loc} {κ : Loc} {v : AV} (h : Refs κ v) (hv : v.refsIn ps = true) : κ ∈ ps := by
  induction h with
  | ptr off =>
    simp only [AV.refsIn] at hv
    obtain ⟨p, hp, he⟩ := List.any_eq_true.1 hv
    exact Loc.eqb_iff.1 he ▸ hp
  | sl len cap =>
    simp only [AV.refsIn] at hv
    obtain ⟨p, hp, he⟩ := List.any_eq_true.1 hv
    exact Loc.eqb_iff.1 he ▸ hp
  | agg xs x hx _ ih => simp only [AV.refsIn] at hv; exact ih (refsInL_mem hv hx)
  | tup xs x hx _ ih => simp only [AV.refsIn] at hv; exact ih (refsInL_mem hv hx)
  | fn f xs x hx _ ih => simp only [AV.refsIn] at hv; exact ih (refsInL_mem hv hx)
  | blk ty xs x hx _ ih => simp only [AV.refsIn] at hv; exact ih (refsInL_mem hv hx)
/-- A store that rounds may begin with. -/
def okS (ps : List Loc) : Store → Bool
  | [] => true
  | (l, v) :: r => (match l with
    | .s _ => !v.isOwn && v.refsIn ps
    | .l _ => v.refsIn ps
    | .e _ => false) && okS ps r
theorem okS_lk {ps : List Loc} {l : Loc} {v : AV} : ∀ {m : Store}, okS ps m = true → lk m l = some v → v.refsIn ps = true ∧ (∀ t, l = .s t → v.isOwn = false) ∧ ∀ j, l ≠ .e j
  | (k, u) :: r, h, hl => by
    simp only [okS, Bool.and_eq_true] at h
    rw [lk_cons] at hl
    split at hl
    · rename_i e; subst e
      obtain rfl := Option.some.inj hl
      cases k with
      | s t => simp only [Bool.and_eq_true, Bool.not_eq_true'] at h; exact ⟨h.1.2, fun _ _ => h.1.1, (fun j e => nomatch e)⟩
      | l t => exact ⟨h.1, (fun t e => nomatch e), (fun j e => nomatch e)⟩
      | e j => exact absurd h.1 (by simp)
    · exact okS_lk h.2 hl
def pinsB (m : Store) : List Loc → Bool
  | [] => true
  | p :: r => (match p, lk m p with
    | .l _, some (.blk _ _) => true
    | _, _ => false) && pinsB m r
theorem pinsB_at {m : Store} {κ : Loc} : ∀ {ps : List Loc}, pinsB m ps = true → κ ∈ ps → κ.isBlk = true ∧ (∃ ty cells, lk m κ = some (.blk ty cells)) ∧ ∀ j, κ ≠ .e j
  | p :: r, h, hk => by
    simp only [pinsB, Bool.and_eq_true] at h
    rcases List.mem_cons.1 hk with rfl | hk
    · have h := h.1
      split at h
      · rename_i he; exact ⟨rfl, ⟨_, _, he⟩, (fun j e => nomatch e)⟩
      · cases h
    · exact pinsB_at h.2 hk

section
variable {P : Program} {Γ : Ctx} {M : Nat → Nat → Prop} {Ow : Loc → Nat → Option Nat} {n : Nat} {m : Store} {a : Act} {w : World}

/-- Some blocks are let go. -/
theorem Rel.filt (h : Rel P Γ M Ow n m a w) {pins : List Loc} (p : Loc → Nat → Bool) (hok : okS pins m = true) (hpin : ∀ κ, Γ.pin κ ≠ none → κ ∈ pins) (hpp : ∀ κ b, κ ∈ pins → Ow κ 0 = some b → p κ b = true)
    (hblk : ∀ κ b, lk m κ ≠ none → κ.isBlk = true → Ow κ 0 = some b → p κ b = true) (hcell : ∀ κ i b, lk m κ ≠ none → κ.isBlk = true → Ow κ (i + 1) = some b → (∃ cs ty, w.heap[b]? = some (.cells cs ty (0, 0))) → p κ b = true) :
    Rel P Γ M (fun l i => (Ow l i).filter (p l)) n m a w := by
  have up : ∀ {l i b}, (Ow l i).filter (p l) = some b → Ow l i = some b := fun e => (Option.filter_eq_some_iff.1 e).1
  have vr : ∀ {x : AV} {v : Value}, x.refsIn pins = true → VRel w M (fun κ => Ow κ 0) x v → VRel w M (fun κ => (Ow κ 0).filter (p κ)) x v := fun hx hv =>
    hv.mono (fun b o hb => ⟨hb, rfl⟩) (fun κ b _ hr e => Option.filter_eq_some_iff.2 ⟨e, hpp κ b (refsIn_of hr hx) e⟩)
  exact {
    size := h.size
    defers := h.defers
    slot := fun t v hv => by
      obtain ⟨o1, o2, _⟩ := okS_lk hok hv
      exact srel_of (vr o1 (vrel_of (h.slot t v hv) (o2 t rfl))) _
    blk := fun κ v hk hv => by
      obtain ⟨ty, cells, c, cs, rfl, ho, hc, hsz, hn, h1, h2⟩ := h.blk κ v hk hv
      have hne : lk m κ ≠ none := by rw [hv]; simp
      obtain ⟨o1, _, _⟩ := okS_lk hok hv
      refine ⟨ty, cells, c, cs, rfl, Option.filter_eq_some_iff.2 ⟨ho, hblk κ c hne hk ho⟩, hc, hsz, hn, h1, fun i y v hy hv => ?_⟩
      have h3 := h2 i y v hy hv
      have h4 : y.refsIn pins = true := refsInL_mem (by simpa only [AV.refsIn] using o1) (List.mem_of_getElem? hy)
      cases y with
      | own ty' xs =>
        obtain ⟨i', hi', hx, h5⟩ := h3
        refine ⟨i', hi', hx, ?_⟩
        rcases h5 with h5 | ⟨b, off, cap, cs', e1, rest⟩
        · exact .inl h5
        · exact .inr ⟨b, off, cap, cs', Option.filter_eq_some_iff.2 ⟨e1, hcell κ i b hne hk e1 ⟨_, _, rest.2.2.1⟩⟩, rest⟩
      | raw ty' z xs =>
        obtain ⟨i', hi', hx, h5⟩ := h3
        refine ⟨i', hi', hx, ?_⟩
        rcases h5 with h5 | ⟨b, off, cap, cs', e1, rest⟩
        · exact .inl h5
        · exact .inr ⟨b, off, cap, cs', Option.filter_eq_some_iff.2 ⟨e1, hcell κ i b hne hk e1 ⟨_, _, rest.2.2.1⟩⟩, rest⟩
      | _ => exact srel_of (vr h4 (vrel_of h3 rfl)) _
    inj := fun l i l' i' b e e' => h.inj l i l' i' b (up e) (up e')
    lt := fun l i b e => h.lt l i b (up e)
    mine := fun l i b e => h.mine l i b (up e)
    mlt := h.mlt
    mold := h.mold
    mnew := h.mnew
    fr := h.fr
    pin := fun κ b hk hp => by
      have e := h.pin κ b hk hp
      exact Option.filter_eq_some_iff.2 ⟨e, hpp κ b (hpin κ (by rw [hp]; simp)) e⟩ }
def Loc.notE : Loc → Bool
  | .e _ => false
  | _ => true
/-- What the world's turns between rounds leave. -/
theorem Rel.harm (h : Rel P Γ M Ow n m a w) {b E : Nat} {w' : World} (hh : Harm b E w w') (hds : a.defers = Γ.ds) (hE : Γ.w0.heap.size ≤ E) (hb0 : Γ.own0 b ∨ Γ.w0.heap.size ≤ b) (hbO : ∀ l i, Ow l i ≠ some b) (hbM : ∀ o, ¬ M b o) : Rel P Γ M Ow n m a w' := by
  obtain ⟨row, hg, hs, hrow⟩ := hh
  have blk_ : ∀ (c : Nat) (o : Obj), w.heap[c]? = some o → o.isCells = true → c ≠ b → w'.heap[c]? = some o := fun c o hc ho hn => by
    refine (hg.block c (Array.getElem?_eq_some_iff.1 hc).1 (fun e => ?_)).trans hc
    rcases hrow c e.symm with e1 | ⟨_, o1, o2, h1, _, h2, _⟩
    · exact hn e1
    · rw [hc] at h1; obtain rfl := Option.some.inj h1; rw [ho] at h2; cases h2
  have cell_ : ∀ c o, M c o → M c o ∧ w'.cell? ⟨c, o, none⟩ = w.cell? ⟨c, o, none⟩ := fun c o hM => ⟨hM, by
    by_cases hr : row = some c
    · rcases hrow c hr with e1 | ⟨_, o1, o2, h1, h3, h2, h4⟩
      · subst e1; exact absurd hM (hbM o)
      · unfold World.cell?
        rw [h1, h3]
        cases o1 <;> cases o2 <;> first | rfl | (cases h2; done) | (cases h4; done)
    · unfold World.cell?
      rw [hg.block c (h.mlt c o hM) (fun e => hr e.symm)]⟩
  have sr : ∀ {x : AV} {v : Value} {l : Loc} {i : Nat}, SRel P w M Ow x v (Ow l i) → SRel P w' M Ow x v (Ow l i) := fun hv =>
    hv.mono cell_ (fun κ b _ _ e => e) (fun c e => ⟨e, fun cs ty hc => blk_ c _ hc rfl (fun e' => hbO _ _ (e' ▸ e)), fun k hk => hk⟩)
  exact {
    size := h.size
    defers := ⟨[], hds, List.nodup_nil, fun D hD => by cases hD⟩
    slot := fun t v hv => sr (h.slot t v hv)
    blk := fun κ v hk hv => by
      obtain ⟨ty, cells, c, cs, rfl, ho, hc, hsz, hn, h1, h2⟩ := h.blk κ v hk hv
      exact ⟨ty, cells, c, cs, rfl, ho, blk_ c _ hc rfl (fun e => hbO _ _ (e ▸ ho)), hsz, hn, h1, fun i y v hy hv => sr (h2 i y v hy hv)⟩
    inj := h.inj
    lt := fun l i c hc => Nat.lt_of_lt_of_le (h.lt l i c hc) hg.size
    mine := h.mine
    mlt := fun c o hc => Nat.lt_of_lt_of_le (h.mlt c o hc) hg.size
    mold := h.mold
    mnew := h.mnew
    fr := {
      os := hg.os.trans h.fr.os
      tape := hg.tape.trans h.fr.tape
      output := hg.output.trans h.fr.output
      size := Nat.le_trans h.fr.size hg.size
      block := fun c hc hn => (hg.block c (Nat.lt_of_lt_of_le hc h.fr.size) (fun e => by
        rcases hrow c e.symm with e1 | ⟨h1, _⟩
        · subst e1; rcases hb0 with h2 | h2; exact hn h2; omega
        · omega)).trans (h.fr.block c hc hn)
      shape := fun c cs ty z hz => by
        obtain ⟨cs1, h1, h2⟩ := h.fr.shape c cs ty z hz
        obtain ⟨cs2, h3, h4⟩ := hs c cs1 ty z h1
        exact ⟨cs2, h3, h4.trans h2⟩
      keep := fun c o hc => (cell_ c o (h.mold c o hc)).2.trans (h.fr.keep c o hc) }
    pin := h.pin }

/-- What holds between rounds. -/
structure RInv (P : Program) (Γ : Ctx) (n : Nat) (m : Store) (a : Act) (Bx : Nat → Prop) (b0 : Nat) (Ds : List Nat) (W : World) (M : Nat → Nat → Prop) (Ow : Loc → Nat → Option Nat) : Prop where
  rel : Rel P { Γ with ds := a.defers } M Ow n m a W
  ow : ∀ l i b, Ow l i = some b → (∀ j, l ≠ .e j) ∧ ¬ Bx b
  mb : ∀ o, ¬ M b0 o
  ds : ∀ D, D ∈ Ds → W.heap[D]? = some (.deferred (some []))

theorem RInv.harm {Bx : Nat → Prop} {b0 : Nat} {Ds : List Nat} {W W' : World} {E : Nat} (h : RInv P Γ n m a Bx b0 Ds W M Ow) (hh : Harm b0 E W W') (hE : Γ.w0.heap.size ≤ E) (hb0 : Γ.own0 b0 ∨ Γ.w0.heap.size ≤ b0) (hB : Bx b0) (hD : ∀ D, D ∈ Ds → D < E ∧ D ≠ b0) : RInv P Γ n m a Bx b0 Ds W' M Ow where
  rel := h.rel.harm hh rfl hE hb0 (fun l i e => (h.ow l i b0 e).2 hB) h.mb
  ow := h.ow
  mb := h.mb
  ds := fun D hDm => by
    obtain ⟨row, hg, _, hrow⟩ := hh
    refine (hg.block D (Array.getElem?_eq_some_iff.1 (h.ds D hDm)).1 (fun e => ?_)).trans (h.ds D hDm)
    obtain ⟨h1, h2⟩ := hD D hDm
    rcases hrow D e.symm with e1 | ⟨e1, _⟩
    · exact h2 e1
    · omega

/-- The outcome of a round: its blocks, and the slots that there were. -/
def OutOf (base mX m' : Store) : Prop := ∀ l v, lk mX l = some v → match l with
  | .s t => lk base (.s t) = some v
  | l => lk m' l = some v
def OutL (base : Store) : Store → Store → Prop
  | [], _ => True
  | (l, v) :: r, m' => (match l with
    | .s t => lk base (.s t) = some v
    | l => lk m' l = some v) ∧ OutL base r m'
theorem OutL.out {base : Store} : ∀ {mX m' : Store}, OutL base mX m' → OutOf base mX m'
  | (k, u) :: r, m', h, l, v, hl => by
    rw [lk_cons] at hl
    split at hl
    · rename_i e; subst e; obtain rfl := Option.some.inj hl; exact h.1
    · exact OutL.out h.2 l v hl

/-- A round. -/
theorem RInv.round {G : Env} {pins : List Loc} {Bx : Nat → Prop} {b0 : Nat} {Ds : List Nat} {W : World} {S0 Sk : Store} {l : Nat} {body : Code} {Qr : Exit → Store → Prop} {t t' : Nat} {p : Value}
    (hG : Γ.G = G.st) (h : RInv P Γ n Sk a Bx b0 Ds W M Ow) (hl : ∃ r, W.heap[l]? = some (.loop r)) (hBl : Bx l) (hBW : ∀ b, Bx b → b < W.heap.size) (hp1 : p.oneCell' = true) (ht : t < n) (ht' : t' < n)
    (hDs : ∀ D, D ∈ Ds → Bx D) (hBb : Bx b0)
    (hpins : ∀ κ, Γ.pin κ ≠ none → κ ∈ pins) (hok : okS pins Sk = true) (hslots : ∀ t v, lk S0 (.s t) = some v → lk Sk (.s t) = some v)
    (hpb : pinsB Sk pins = true)
    (hbody : Tr P ⟨G.st, pins⟩ n body ((.s t', .tr (.sc p)) :: (.s t, .tr (.sc p)) :: Sk) Qr) :
    body.wpIn (FW (some l)) 0 P (fun e a' W' => ∃ m', Qr e m' ∧ Keeps (fun r => Bx r ∨ ∃ w1, Γ.G w1 ∧ r < w1.heap.size ∧ (∀ b, Γ.own0 b → w1.heap.size ≤ b) ∧ w1.heap.size ≤ Γ.w0.heap.size) W W' ∧
      ∀ mX, OutOf S0 mX m' → okS pins mX = true → ∃ M' Ow', RInv P Γ n mX a Bx b0 Ds W' M' Ow') (({ tmps := a.tmps.setIfInBounds t p, defers := [] } : Act).put (some t') p) W := by
  have hr := h.rel
  have hown : ∀ b, (∃ l i, Ow l i = some b) → Γ.own0 b ∨ Γ.w0.heap.size ≤ b := by
    rintro b ⟨l, i, e⟩
    rcases hr.mine l i b e with h1 | h1 | ⟨j, h1, _⟩
    · exact .inl h1
    · exact .inr h1
    · exact absurd h1 ((h.ow l i b e).1 j)
  have hfr : ∀ W', Fr W (fun b => ∃ l i, Ow l i = some b) M W' → Fr Γ.w0 Γ.own0 Γ.M0 W' := fun W' hf => Fr.trans hr.fr hf hown hr.mold
  obtain ⟨w1, hw1, hw2, hw3⟩ := Γ.base
  let Γ' : Ctx := {
    w0 := W, own0 := fun b => ∃ l i, Ow l i = some b, M0 := M, ro := fun _ => False, G := Γ.G
    stab := fun W' hf => Γ.stab W' (hfr W' hf)
    ds := [], rd := some l
    rl := fun l' e => by obtain rfl := Option.some.inj e; exact ⟨hl, fun ⟨l2, i, e⟩ => (h.ow l2 i _ e).2 hBl⟩
    pin := fun κ => if pins.contains κ = true then Ow κ 0 else none
    base := ⟨w1, hw1, fun b hb => by rcases hown b hb with h1 | h1; exact hw2 b h1; exact Nat.le_trans hw3 h1, Nat.le_trans hw3 hr.fr.size⟩ }
  have hΓ' : Env.ok ⟨G.st, pins⟩ Γ' := ⟨hG, fun κ hκ => by
    by_cases e : pins.contains κ = true
    · exact List.contains_iff_mem.1 e
    · exact absurd (if_neg e) hκ⟩
  have hr0 : Rel P Γ' M Ow n Sk { tmps := a.tmps, defers := [] } W := {
    size := hr.size
    defers := ⟨[], rfl, List.nodup_nil, fun D hD => by cases hD⟩
    slot := hr.slot
    blk := hr.blk
    inj := hr.inj
    lt := hr.lt
    mine := fun l i b e => .inl ⟨l, i, e⟩
    mlt := hr.mlt
    mold := fun b o hb => hb
    mnew := fun b o hb => .inl hb
    fr := ⟨rfl, rfl, rfl, Nat.le_refl _, fun _ _ _ => rfl, fun b cs ty z h => ⟨cs, h, rfl⟩, fun _ _ _ => rfl⟩
    pin := fun κ b hk hp => by
      have hp : (if pins.contains κ = true then Ow κ 0 else none) = some b := hp
      split at hp
      · exact hp
      · cases hp }
  have hr1 := (hr0.put ht (VRel.tr (.sc p) p (.sc p hp1))).put ht' (VRel.tr (.sc p) p (.sc p hp1))
  refine Go.wpIn_mono (hbody Γ' hΓ' _ W ⟨M, Ow, hr1⟩) ?_
  rintro e a' W' ⟨m', hq, M', Ow', hr'⟩
  refine ⟨m', hq, ⟨hr'.fr.size, fun r hS hlt => hr'.fr.block r hlt ?_⟩, fun mX hX hokX => ⟨M', fun l i => (Ow' l i).filter (fun _ => l.notE), ?_⟩⟩
  · rintro ⟨l2, i, e2⟩
    rcases hS with hS | ⟨w2, _, h3, h4, h5⟩
    · exact (h.ow l2 i r e2).2 hS
    · rcases hown r ⟨l2, i, e2⟩ with h6 | h6
      · have := h4 r h6; omega
      · omega
  · have hcell : ∀ b o, M b o → M' b o ∧ W'.cell? ⟨b, o, none⟩ = W.cell? ⟨b, o, none⟩ := fun b o hb => ⟨hr'.mold b o hb, hr'.fr.keep b o hb⟩
    have hbk : ∀ κ b, κ ∈ pins → Ow κ 0 = some b → Ow' κ 0 = some b := fun κ b hk e => by
      obtain ⟨h1, _, _⟩ := pinsB_at hpb hk
      exact hr'.pin κ b h1 (show (if pins.contains κ = true then Ow κ 0 else none) = some b by rw [if_pos (List.contains_iff_mem.2 hk)]; exact e)
    have hmine' : ∀ l i b, Ow' l i = some b → (∃ l i, Ow l i = some b) ∨ W.heap.size ≤ b := fun l i b e => by
      rcases hr'.mine l i b e with h1 | h1 | ⟨j, _, h1⟩
      · exact .inl h1
      · exact .inr h1
      · exact h1.elim
    have hrel : Rel P { Γ with ds := a.defers } M' Ow' n mX a W' := {
      size := hr.size
      defers := ⟨[], rfl, List.nodup_nil, fun D hD => by cases hD⟩
      slot := fun q v hv => by
        have h1 : lk S0 (.s q) = some v := hX (.s q) v hv
        have h2 := hslots q v h1
        obtain ⟨o1, o2, _⟩ := okS_lk hok h2
        have h3 := vrel_of (hr.slot q v h2) (o2 q rfl)
        exact srel_of (h3.mono hcell (fun κ b hk hrf e => hbk κ b (refsIn_of hrf o1) e)) _
      blk := fun κ v hk hv => by
        have h1 := hX κ v hv
        cases κ with
        | s q => cases hk
        | l q => exact hr'.blk _ v rfl h1
        | e q => exact hr'.blk _ v rfl h1
      inj := hr'.inj
      lt := hr'.lt
      mine := fun l i b e => by
        rcases hmine' l i b e with h1 | h1
        · rcases hown b h1 with h2 | h2
          · exact .inl h2
          · exact .inr (.inl h2)
        · exact .inr (.inl (Nat.le_trans hr.fr.size h1))
      mlt := hr'.mlt
      mold := fun b o hb => hr'.mold b o (hr.mold b o hb)
      mnew := fun b o hb => by
        rcases hr'.mnew b o hb with h1 | h1 | h1
        · exact hr.mnew b o h1
        · rcases hown b h1 with h2 | h2
          · exact .inr (.inl h2)
          · exact .inr (.inr h2)
        · exact .inr (.inr (Nat.le_trans hr.fr.size h1))
      fr := hfr W' hr'.fr
      pin := fun κ b hk hp => hbk κ b (hpins κ (by rw [show Γ.pin κ = some b from hp]; simp)) (hr.pin κ b hk hp) }
    exact {
      rel := hrel.filt (pins := pins) (fun l _ => l.notE) hokX hpins
        (fun κ b hk _ => by
          obtain ⟨_, _, h3⟩ := pinsB_at hpb hk
          cases κ with
          | e j => exact absurd rfl (h3 j)
          | _ => rfl)
        (fun κ b hne _ _ => by
          obtain ⟨v, hv⟩ := Option.ne_none_iff_exists'.1 hne
          cases κ with
          | e j => exact absurd rfl ((okS_lk hokX hv).2.2 j)
          | _ => rfl)
        (fun κ i b hne _ _ _ => by
          obtain ⟨v, hv⟩ := Option.ne_none_iff_exists'.1 hne
          cases κ with
          | e j => exact absurd rfl ((okS_lk hokX hv).2.2 j)
          | _ => rfl)
      ow := fun l i b e => by
        obtain ⟨e1, e2⟩ := Option.filter_eq_some_iff.1 e
        have h1 := hmine' l i b e1
        refine ⟨(fun j ej => by subst ej; cases e2), fun hB => ?_⟩
        rcases h1 with ⟨l2, i2, e2⟩ | h1
        · exact (h.ow l2 i2 b e2).2 hB
        · have := hBW b hB; omega
      mb := fun o hb => by
        rcases hr'.mnew b0 o hb with h1 | ⟨l2, i2, e2⟩ | h1
        · exact h.mb o h1
        · exact (h.ow l2 i2 b0 e2).2 hBb
        · have := hBW b0 hBb
          have h1 : W.heap.size ≤ b0 := h1
          omega
      ds := fun D hD => by
        refine (hr'.fr.block D (Array.getElem?_eq_some_iff.1 (h.ds D hD)).1 ?_).trans (h.ds D hD)
        rintro ⟨l2, i, e2⟩
        exact (h.ow l2 i D e2).2 (hDs D hD) }

theorem Rel.reds (h : Rel P Γ M Ow n m a w) : Rel P { Γ with ds := a.defers } M Ow n m a w := {
  size := h.size
  defers := ⟨[], rfl, List.nodup_nil, fun D hD => by cases hD⟩
  slot := h.slot
  blk := h.blk
  inj := h.inj
  lt := h.lt
  mine := h.mine
  mlt := h.mlt
  mold := h.mold
  mnew := h.mnew
  fr := h.fr
  pin := h.pin }
theorem Rel.unds {ds : List Deferred} (h : Rel P { Γ with ds := ds } M Ow n m a w) (d : List Deferred) (hd : ∃ Ds : List Nat, d = Ds.map markD ++ Γ.ds ∧ Ds.Nodup ∧ ∀ D, D ∈ Ds → Γ.w0.heap.size ≤ D ∧ w.heap[D]? = some (.deferred (some []))) : Rel P Γ M Ow n m { a with defers := d } w := {
  size := h.size
  defers := hd
  slot := h.slot
  blk := h.blk
  inj := h.inj
  lt := h.lt
  mine := h.mine
  mlt := h.mlt
  mold := h.mold
  mnew := h.mnew
  fr := h.fr
  pin := h.pin }
theorem FW.any {ro : Option Nat} {k k' : Nat} {c : Code} {Q : Exit → Act → World → Prop} (h : c.wpIn (FW ro) k P Q a w) : c.wpIn (FW ro) k' P Q a w := fun b i cs h1 h2 _ => h b i cs h1 h2 (fun d hd => by cases ro <;> cases hd)
theorem Rel.one {κ : Loc} {ty : TypeId} {v : Value} (h : Rel P Γ M Ow n m a w) (hk : κ.isBlk = true) (hl : lk m κ = some (.blk ty [.tr (.sc v)])) : ∃ b, Ow κ 0 = some b ∧ w.heap[b]? = some (.cells #[v] ty (0, 0)) ∧ ∀ o, ¬ M b o := by
  obtain ⟨ty', cells, b, cs, e, ho, hh, hsz, hn, h1, h2⟩ := h.blk κ _ hk hl
  obtain ⟨rfl, rfl⟩ : ty = ty' ∧ [AV.tr (.sc v)] = cells := by injection e with e1 e2; exact ⟨e1, e2⟩
  refine ⟨b, ho, ?_, hn⟩
  have hs1 : cs.size = 1 := hsz
  have h3 := h2 0 _ cs[0] rfl (by simp [hs1])
  have h4 : VRel w M (fun κ => Ow κ 0) (.tr (.sc v)) cs[0] := h3
  have h5 : cs[0] = v := by
    generalize cs[0] = q at h4
    cases h4 with | tr _ _ h => cases h; rfl
  rw [hh]
  congr 2
  apply Array.ext
  · simp [hs1]
  · intro i h6 h7
    obtain rfl : i = 0 := by omega
    simpa using h5
def codeOf (e : Exit) (c : Code) : Prop := (e = .ret ∧ c = .ret) ∨ (∃ id, e = .exit id ∧ c = .exit id) ∨ ∃ l, e = .goto l ∧ c = .goto l
def roundQ (pins : List Loc) (S0 : Store) (Nx : Store → Prop) (Q : Exit → Store → Prop) : Exit → Store → Prop
  | .normal, m' => Nx m'
  | .ret, m' => ∃ mX, OutL S0 mX m' ∧ okS pins mX = true ∧ Q .ret mX
  | .exit id, m' => ∃ mX, OutL S0 mX m' ∧ okS pins mX = true ∧ Q (.exit id) mX
  | .goto l, m' => ∃ mX, OutL S0 mX m' ∧ okS pins mX = true ∧ Q (.goto l) mX
  | _, _ => False
/-- A range over the pieces of a text. -/
theorem Tr.range {G : Env} {g t t' : Nat} {assign body : Code} {Q : Exit → Store → Prop} {gf : FuncId} {κ0 κ1 κ2 : Loc} {s sep : ByteArray} {tst ti : TypeId} {xs : List ByteArray} {mx : Nat} (pins : List Loc) (S : Nat → Store) (inv : Nat → Prop)
    (hg : lk m (.s g) = some (.fn gf [.ptr κ1 0, .ptr κ0 0, .ptr κ2 0])) (hb0 : lk m κ0 = some (.blk tst [.tr (.sc (.string s))])) (hb1 : lk m κ1 = some (.blk tst [.tr (.sc (.string sep))])) (hb2 : lk m κ2 = some (.blk ti [.tr (.sc (.int .i64 0))]))
    (hL : (κ0.isL && κ1.isL && κ2.isL && !κ0.eqb κ1 && !κ0.eqb κ2) = true) (hmx : ∀ w, G.st w → mx < w.heap.size)
    (hit : ∀ w b0 b1 b2, G.st w → b1 ≠ b0 → b2 ≠ b0 → mx ≠ b0 → w.heap[b0]? = some (.cells #[.string s] tst (0, 0)) → w.heap[b1]? = some (.cells #[.string sep] tst (0, 0)) → w.heap[b2]? = some (.cells #[.int .i64 0] ti (0, 0)) →
      Iter Fence.wide 8 P gf #[.pointer (some ⟨b1, 0, none⟩), .pointer (some ⟨b0, 0, none⟩), .pointer (some ⟨b2, 0, none⟩)] (fun r => r = b0 ∨ r = b1 ∨ r = b2 ∨ r = mx) b0 (xs.map Value.string) w)
    (eg : ∀ args w, (callFunc gf args).run P w = .ok (.enter gf args) w) (ht : Nat.blt t n = true) (ht' : Nat.blt t' n = true)
    (hassign : ∀ (l k : Nat) (a : Act) (W : World) (K : Act → World → Prop), K (a.put (some t') (a.tmps.getD t undef)) W → assign.wpIn (FW (some l)) k P (Exit.then K fun _ _ _ => False) a W)
    (h0 : inv 0) (hs : Sub (S 0) m) (hok : ∀ k, okS pins (S k) = true) (hpb : ∀ k, pinsB (S k) pins = true) (hslots : ∀ k q v, lk (S 0) (.s q) = some v → lk (S k) (.s q) = some v)
    (hno : lk (S 0) κ0 = none ∧ lk (S 0) κ1 = none ∧ lk (S 0) κ2 = none) (hGp : G.pins.all (pins.contains ·) = true)
    (round : ∀ k p, xs[k]? = some p → inv k → Tr P ⟨G.st, pins⟩ n body ((.s t', .tr (.sc (.string p))) :: (.s t, .tr (.sc (.string p))) :: S k) (roundQ pins (S 0) (fun m' => inv (k + 1) ∧ OutL (S 0) (S (k + 1)) m') Q))
    (done : inv xs.length → Q .normal (S xs.length)) :
    Tr P G n (.rangeFunc (.tmp g) #[t] assign body) m Q := by
  intro Γ hΓ a w hrx
  obtain ⟨M, Ow, hr⟩ := hrx
  simp only [Bool.and_eq_true, Bool.not_eq_true'] at hL
  obtain ⟨⟨⟨⟨l0, l1⟩, l2⟩, l3⟩, l4⟩ := hL
  have k0 := Loc.isL_blk l0
  have k1 := Loc.isL_blk l1
  have k2 := Loc.isL_blk l2
  have hne1 : κ0 ≠ κ1 := fun e => by rw [e, Loc.eqb_self] at l3; cases l3
  have hne2 : κ0 ≠ κ2 := fun e => by rw [e, Loc.eqb_self] at l4; cases l4
  have htn : t < n := Nat.lt_of_succ_le (Nat.le_of_ble_eq_true ht)
  have htn' : t' < n := Nat.lt_of_succ_le (Nat.le_of_ble_eq_true ht')
  obtain ⟨b0, o0, c0, hM0⟩ := hr.one k0 hb0
  obtain ⟨b1, o1, c1, _⟩ := hr.one k1 hb1
  obtain ⟨b2, o2, c2, _⟩ := hr.one k2 hb2
  have n1 : b1 ≠ b0 := fun e => hne1 (hr.inj κ0 0 κ1 0 b0 o0 (e ▸ o1)).1
  have n2 : b2 ≠ b0 := fun e => hne2 (hr.inj κ0 0 κ2 0 b0 o0 (e ▸ o2)).1
  obtain ⟨w1, hw1, hw2, hw3⟩ := Γ.base
  have hGw : G.st w := by rw [← hΓ.1]; exact Γ.stab w hr.fr
  have hmx1 := hmx w1 (by rw [← hΓ.1]; exact hw1)
  have hb0m : Γ.own0 b0 ∨ Γ.w0.heap.size ≤ b0 := hr.mineL (fun j e => by rw [e] at l0; cases l0) o0
  have hmxb : mx ≠ b0 := fun e => by
    rcases hb0m with h1 | h1
    · have := hw2 b0 h1; omega
    · omega
  obtain ⟨Ds, hd1, hd2, hd3⟩ := hr.defers
  -- the closure
  obtain ⟨lb, hlb⟩ : ∃ lb : Array Value, lb = #[.pointer (some ⟨b1, 0, none⟩), .pointer (some ⟨b0, 0, none⟩), .pointer (some ⟨b2, 0, none⟩)] := ⟨_, rfl⟩
  have hfv : a.eval (.tmp g) = .func (.func gf) #[] lb := by
    have h1 : VRel w M (fun κ => Ow κ 0) (.fn gf [.ptr κ1 0, .ptr κ0 0, .ptr κ2 0]) (a.tmps.getD g undef) := hr.slot g _ hg
    show a.tmps.getD g undef = _
    generalize a.tmps.getD g undef = q at h1
    cases h1 with
    | fn _ _ cs hsz hcs =>
      congr 1
      rw [hlb]
      have at_ : ∀ (i : Nat) (κ : Loc) (b : Nat), i < 3 → ([AV.ptr κ1 0, .ptr κ0 0, .ptr κ2 0])[i]? = some (.ptr κ 0) → Ow κ 0 = some b → cs[i]? = some (.pointer (some ⟨b, 0, none⟩)) := by
        intro i κ b hi hx ho
        have hlt : i < cs.size := by rw [hsz]; exact hi
        have := hcs i _ cs[i] hx (by simp [hlt])
        rw [Array.getElem?_eq_getElem hlt]
        congr 1
        generalize cs[i] = q at this
        cases this with | ptr _ _ b' _ hb => rw [ho] at hb; obtain rfl := Option.some.inj hb; rfl
      apply Array.ext_getElem?
      intro i
      match i with
      | 0 => rw [at_ 0 κ1 b1 (by omega) rfl o1]; rfl
      | 1 => rw [at_ 1 κ0 b0 (by omega) rfl o0]; rfl
      | 2 => rw [at_ 2 κ2 b2 (by omega) rfl o2]; rfl
      | i + 3 => rw [Array.getElem?_eq_none (by rw [hsz]; simp), Array.getElem?_eq_none (by simp)]
  -- what is never touched in a round
  obtain ⟨nl, hnl⟩ : ∃ nl : Nat, nl = (match Γ.rd with | none => 2 | some _ => 1) := ⟨_, rfl⟩
  let Bx : Nat → Prop := fun b => b = b0 ∨ b = b1 ∨ b = b2 ∨ b ∈ Ds ∨ (w.heap.size ≤ b ∧ b < w.heap.size + nl)
  have hDlt : ∀ D, D ∈ Ds → D < w.heap.size ∧ D ≠ b0 := fun D hD => ⟨(Array.getElem?_eq_some_iff.1 (hd3 D hD).2).1, fun e => by
    have := (hd3 D hD).2
    rw [e, c0] at this; cases this⟩
  have notB : ∀ l i b, Ow l i = some b → (l ≠ κ0 ∧ l ≠ κ1 ∧ l ≠ κ2) → (∃ cs ty, w.heap[b]? = some (.cells cs ty (0, 0))) → ¬ Bx b := by
    rintro l i b e ⟨h1, h2, h3⟩ ⟨cs, ty, hc⟩ hB
    rcases hB with hB | hB | hB | hB | hB
    · exact h1 (hr.inj l i κ0 0 b e (hB ▸ o0)).1
    · exact h2 (hr.inj l i κ1 0 b e (hB ▸ o1)).1
    · exact h3 (hr.inj l i κ2 0 b e (hB ▸ o2)).1
    · have := (hd3 b hB).2
      rw [hc] at this; cases this
    · have := hr.lt l i b e; omega
  have hrS := (hr.sub hs).reds
  have inS : ∀ κ, lk (S 0) κ ≠ none → κ ≠ κ0 ∧ κ ≠ κ1 ∧ κ ≠ κ2 := fun κ h => ⟨fun e => h (e ▸ hno.1), fun e => h (e ▸ hno.2.1), fun e => h (e ▸ hno.2.2)⟩
  have blkCells : ∀ κ b, lk (S 0) κ ≠ none → κ.isBlk = true → Ow κ 0 = some b → ∃ cs ty, w.heap[b]? = some (.cells cs ty (0, 0)) := fun κ b hne hk e => by
    obtain ⟨v, hv⟩ := Option.ne_none_iff_exists'.1 hne
    obtain ⟨ty, cells, b', cs, _, ho, hh, _⟩ := hrS.blk κ v hk hv
    rw [e] at ho; obtain rfl := Option.some.inj ho
    exact ⟨cs, ty, hh⟩
  have hpins : ∀ κ, Γ.pin κ ≠ none → κ ∈ pins := fun κ h => List.contains_iff_mem.1 (List.all_eq_true.1 hGp κ (hΓ.2 κ h))
  classical
  have hfil := hrS.filt (pins := pins) (fun l b => l.notE && !decide (Bx b)) (hok 0) hpins
    (fun κ b hk e => by
      obtain ⟨h1, ⟨ty, cells, h2⟩, h3⟩ := pinsB_at (hpb 0) hk
      have hne : lk (S 0) κ ≠ none := by rw [h2]; simp
      have h4 : κ.notE = true := by cases κ with | e j => exact absurd rfl (h3 j) | _ => rfl
      have h5 := notB κ 0 b e (inS κ hne) (blkCells κ b hne h1 e)
      simp [h4, h5])
    (fun κ b hne hk e => by
      obtain ⟨v, hv⟩ := Option.ne_none_iff_exists'.1 hne
      have h4 : κ.notE = true := by cases κ with | e j => exact absurd rfl ((okS_lk (hok 0) hv).2.2 j) | _ => rfl
      have h5 := notB κ 0 b e (inS κ hne) (blkCells κ b hne hk e)
      simp [h4, h5])
    (fun κ i b hne hk e hc => by
      obtain ⟨v, hv⟩ := Option.ne_none_iff_exists'.1 hne
      have h4 : κ.notE = true := by cases κ with | e j => exact absurd rfl ((okS_lk (hok 0) hv).2.2 j) | _ => rfl
      have h5 := notB κ (i + 1) b e (inS κ hne) hc
      simp [h4, h5])
  have hI0 : RInv P Γ n (S 0) a Bx b0 Ds w M (fun l i => (Ow l i).filter (fun b => l.notE && !decide (Bx b))) := {
    rel := hfil
    ow := fun l i b e => by
      have h1 := (Option.filter_eq_some_iff.1 e).2
      simp only [Bool.and_eq_true, Bool.not_eq_true', decide_eq_false_iff_not] at h1
      exact ⟨fun j ej => by subst ej; exact absurd h1.1 (by simp [Loc.notE]), h1.2⟩
    mb := hM0
    ds := fun D hD => (hd3 D hD).2 }
  have hBb : Bx b0 := .inl rfl
  have hBD : ∀ D, D ∈ Ds → Bx D := fun D hD => .inr (.inr (.inr (.inl hD)))
  let I : Nat → World → Prop := fun k W => inv k ∧ ∃ M Ow, RInv P Γ n (S k) a Bx b0 Ds W M Ow
  let Ix : Code → Nat → World → Prop := fun c _ W => ∃ e mX, codeOf e c ∧ Q e mX ∧ ∃ M Ow, RInv P Γ n mX a Bx b0 Ds W M Ow
  have hI : Hold b0 w.heap.size I := fun k W W' ⟨h1, M', Ow', h2⟩ hh => ⟨h1, M', Ow', h2.harm hh hr.fr.size hb0m hBb hDlt⟩
  have hIx : ∀ c, Hold b0 w.heap.size (Ix c) := fun c k W W' ⟨e, mX, h1, h2, M', Ow', h3⟩ hh => ⟨e, mX, h1, h2, M', Ow', h3.harm hh hr.fr.size hb0m hBb hDlt⟩
  have hseq := hit w b0 b1 b2 hGw n1 n2 hmxb c0 c1 c2
  have hSlt : ∀ r, (r = b0 ∨ r = b1 ∨ r = b2 ∨ r = mx) → r < w.heap.size := by
    rintro r (rfl | rfl | rfl | rfl)
    · exact (Array.getElem?_eq_some_iff.1 c0).1
    · exact (Array.getElem?_eq_some_iff.1 c1).1
    · exact (Array.getElem?_eq_some_iff.1 c2).1
    · have := hr.fr.size; omega
  have hasg : ∀ (l k : Nat) (v : Value) (W : World) (K : Act → World → Prop), K (({ tmps := a.tmps.setIfInBounds t v, defers := [] } : Act).put (some t') v) W →
      assign.wpIn (FW (some l)) k P (Exit.then K fun _ _ _ => False) { tmps := (#[t].zip #[v]).foldl (fun t (p, v) => t.setIfInBounds p v) a.tmps, defers := [] } W := by
    intro l k v W K hK
    have e : (#[t].zip #[v]).foldl (fun t (p, v) => t.setIfInBounds p v) a.tmps = a.tmps.setIfInBounds t v := by simp
    rw [e]
    refine hassign l k _ W K ?_
    have h1 : (a.tmps.setIfInBounds t v).getD t undef = v := by
      have : t < a.tmps.size := by rw [hr.size]; exact htn
      simp [Array.getD_eq_getD_getElem?, this]
    rw [h1]; exact hK
  have hbody : ∀ (l k : Nat) (v : Value) (W : World), I k W → (xs.map Value.string)[k]? = some v → Bx l → (∀ b, Bx b → b < W.heap.size) → (∃ r, W.heap[l]? = some (.loop r)) → ∀ T : Nat → Prop, (∀ r, T r → Bx r ∨ r = mx) →
      body.wpIn (FW (some l)) 0 P (cutPost T I Ix k W) (({ tmps := a.tmps.setIfInBounds t v, defers := [] } : Act).put (some t') v) W := by
    rintro l k v W ⟨hinv, M', Ow', hRI⟩ hv hBl hBW hlp T hT
    obtain ⟨p, hp, rfl⟩ : ∃ p, xs[k]? = some p ∧ Value.string p = v := by
      rw [List.getElem?_map] at hv
      exact Option.map_eq_some_iff.1 hv
    have h1 := hRI.round (S0 := S 0) (pins := pins) (t := t) (t' := t') (p := .string p) hΓ.1 hlp hBl hBW rfl htn htn' hBD hBb hpins (hok k) (hslots k) (hpb k) (round k p hp hinv)
    refine Go.wpIn_mono h1 ?_
    rintro e a' W' ⟨m', hq, hK, hout⟩
    have hK' : Keeps T W W' := hK.mono fun r hr => by
      rcases hT r hr with h2 | rfl
      · exact .inl h2
      · exact .inr ⟨w1, hw1, hmx1, hw2, hw3⟩
    cases e with
    | normal =>
      obtain ⟨h2, h3⟩ := hq
      exact ⟨hK', h2, hout _ h3.out (hok _)⟩
    | ret => obtain ⟨mX, h2, h3, h4⟩ := hq; exact ⟨hK', .ret, mX, .inl ⟨rfl, rfl⟩, h4, hout _ h2.out h3⟩
    | exit id => obtain ⟨mX, h2, h3, h4⟩ := hq; exact ⟨hK', .exit id, mX, .inr (.inl ⟨id, rfl, rfl⟩), h4, hout _ h2.out h3⟩
    | goto q => obtain ⟨mX, h2, h3, h4⟩ := hq; exact ⟨hK', .goto q, mX, .inr (.inr ⟨q, rfl, rfl⟩), h4, hout _ h2.out h3⟩
    | panic c => exact hq.elim
    | outgrown => exact hq.elim
  have hend : ∀ (e : Exit) (c : Code) (a' : Act) (W : World) (F : Fence) (k : Nat), codeOf e c → (∃ m', Q e m' ∧ RelX P Γ n m' a' W) → c.wpIn F k P (fun e a' w' => ∃ m', Q e m' ∧ RelX P Γ n m' a' w') a' W := by
    rintro e c a' W F k (⟨rfl, rfl⟩ | ⟨id, rfl, rfl⟩ | ⟨q, rfl, rfl⟩) h
    · exact wpIn_ret h
    · exact wpIn_exit h
    · exact wpIn_goto h
  cases hrd : Γ.rd with
  | none =>
    rw [hrd] at hnl
    have hnl : nl = 2 := hnl
    refine FW.any (k := 9) (range_cuts (F := FW none) (n := 9) rfl (by omega) (gf := gf) (lb := lb) hfv trivial eg (S := fun r => r = b0 ∨ r = b1 ∨ r = b2 ∨ r = mx) (B := b0) hSlt (hSlt b0 (.inl rfl)) (by rw [hlb]; exact hseq) rfl I Ix hI hIx ⟨h0, M, _, hI0⟩ (fun v => ({ tmps := a.tmps.setIfInBounds t v, defers := [] } : Act).put (some t') v) ?_ ?_ ?_ ?_)
    · intro l v W K hK
      exact hasg _ _ v W K hK
    · intro l k v W hIk hv hsz hl hlp hmk
      subst hl
      refine FW.any (k := 0) (hbody _ k v W hIk hv (.inr (.inr (.inr (.inr ⟨by omega, by omega⟩)))) ?_ hlp _ ?_)
      · rintro b (rfl | rfl | rfl | hb | hb)
        · have := hSlt b (.inl rfl); omega
        · have := hSlt b (.inr (.inl rfl)); omega
        · have := hSlt b (.inr (.inr (.inl rfl))); omega
        · have := (hDlt b hb).1; omega
        · omega
      · rintro r ((h1 | h1 | h1 | h1) | h1 | h1)
        · exact .inl (.inl h1)
        · exact .inl (.inr (.inl h1))
        · exact .inl (.inr (.inr (.inl h1)))
        · exact .inr h1
        · exact .inl (.inr (.inr (.inr (.inr ⟨by omega, by omega⟩))))
        · exact .inl (.inr (.inr (.inr (.inr ⟨by omega, by omega⟩))))
    · rintro D W ⟨h1, M', Ow', h2⟩ hK hD
      rw [List.length_map] at h1 h2
      refine ⟨_, done h1, M', Ow', h2.rel.unds _ ⟨D :: Ds, by rw [hd1]; rfl, List.nodup_cons.2 ⟨fun hm => by have := (hDlt D hm).1; omega, hd2⟩, fun D' hD' => ?_⟩⟩
      rcases List.mem_cons.1 hD' with rfl | hD'
      · exact ⟨Nat.le_trans hr.fr.size hD, hK⟩
      · exact ⟨(hd3 D' hD').1, h2.ds D' hD'⟩
    · rintro D c k W ⟨e, mX, h1, h3, M', Ow', h2⟩ hK hD
      refine hend e c _ W _ _ h1 ⟨mX, h3, M', Ow', h2.rel.unds _ ⟨D :: Ds, by rw [hd1]; rfl, List.nodup_cons.2 ⟨fun hm => by have := (hDlt D hm).1; omega, hd2⟩, fun D' hD' => ?_⟩⟩
      rcases List.mem_cons.1 hD' with rfl | hD'
      · exact ⟨Nat.le_trans hr.fr.size hD, hK⟩
      · exact ⟨(hd3 D' hD').1, h2.ds D' hD'⟩
  | some lo =>
    rw [hrd] at hnl
    have hnl : nl = 1 := hnl
    obtain ⟨⟨r0, hr0⟩, hno0⟩ := Γ.rl lo hrd
    have hr0' : w.heap[lo]? = some (.loop r0) := (hr.fr.block lo (Array.getElem?_eq_some_iff.1 hr0).1 hno0).trans hr0
    refine FW.any (k := 9) (range_cutsN (F := FW (some lo)) (n := 9) (l₀ := lo) (r₀ := r0) rfl hr0' (by omega) (gf := gf) (lb := lb) hfv trivial eg (S := fun r => r = b0 ∨ r = b1 ∨ r = b2 ∨ r = mx) (B := b0) hSlt (hSlt b0 (.inl rfl)) (by rw [hlb]; exact hseq.inRound lo) rfl I Ix hI hIx ⟨h0, M, _, hI0⟩ (fun v => ({ tmps := a.tmps.setIfInBounds t v, defers := [] } : Act).put (some t') v) ?_ ?_ ?_ ?_)
    · intro l v W K hK
      exact hasg _ _ v W K hK
    · intro l k v W hIk hv hsz hl hlp
      subst hl
      refine FW.any (k := 0) (hbody _ k v W hIk hv (.inr (.inr (.inr (.inr ⟨by omega, by omega⟩)))) ?_ hlp _ ?_)
      · rintro b (rfl | rfl | rfl | hb | hb)
        · have := hSlt b (.inl rfl); omega
        · have := hSlt b (.inr (.inl rfl)); omega
        · have := hSlt b (.inr (.inr (.inl rfl))); omega
        · have := (hDlt b hb).1; omega
        · omega
      · rintro r ((h1 | h1 | h1 | h1) | h1)
        · exact .inl (.inl h1)
        · exact .inl (.inr (.inl h1))
        · exact .inl (.inr (.inr (.inl h1)))
        · exact .inr h1
        · exact .inl (.inr (.inr (.inr (.inr ⟨by omega, by omega⟩))))
    · rintro W ⟨h1, M', Ow', h2⟩
      rw [List.length_map] at h1 h2
      exact ⟨_, done h1, M', Ow', h2.rel.unds a.defers ⟨Ds, hd1, hd2, fun D' hD' => ⟨(hd3 D' hD').1, h2.ds D' hD'⟩⟩⟩
    · rintro c k W ⟨e, mX, h1, h3, M', Ow', h2⟩
      exact hend e c _ W _ _ h1 ⟨mX, h3, M', Ow', h2.rel.unds a.defers ⟨Ds, hd1, hd2, fun D' hD' => ⟨(hd3 D' hD').1, h2.ds D' hD'⟩⟩⟩
/-- The assignment of a round's value to its variable. -/
theorem assign_move {id d x ty : Nat} {pos : String} {after : Array Edge} (l k : Nat) (a : Act) (W : World) (K : Act → World → Prop) (hK : K (a.put (some d) (a.tmps.getD x undef)) W) :
    (Code.region id #[⟨some d, .assign (.tmp x), ty, pos, after, none⟩] false).wpIn (FW (some l)) k P (Exit.then K fun _ _ _ => False) a W := by
  refine wpIn_region_lit ?_
  unfold wpListIn
  rw [if_pos (by simp [Region.wanted])]
  refine ⟨fun _ _ => trivial, ?_⟩
  have hrun : (execOp a.eval (⟨some d, .assign (.tmp x), ty, pos, after, none⟩ : Oper)).run P W = .ok (.value (a.tmps.getD x undef)) W := rfl
  rw [show (FW (some l)).round = some l from rfl, semAt_of (some l) hrun (fun d e => by cases e), Oper.uponIn_value]
  exact hK
end
end Go.Lg

set_option linter.unusedVariables false
set_option linter.unusedSimpArgs false
namespace Go.Lg
open Go Go.RowKit

section
variable {P : Program} {G : Env} {n : Nat} {tab : Tab} {m : Store}

theorem Sq.spec {ops l : List Oper} {o : Oper} {r : R} {K : Store → Prop} (hg : gOk m ops o.guard = true) (h : OSpec P n o m r) (hf : (freshB r.1 m && pinB r.1 G.pins) = true) (k : Sq P G n ops l (r.2.2 ++ m) K) : Sq P G n ops (o :: l) m K := by
  rw [Bool.and_eq_true] at hf
  refine Sq.step (fr := r.1) ?_ (pinB_eq hf.2) k
  rintro Γ a w hpn ⟨M, Ow, hr⟩
  rw [if_pos (wanted_of hg hr)]
  exact h.act m h.here (freshB_eq hf.1) Γ a w hpn ⟨M, Ow, hr⟩

/-- A new block, with a slice of it. -/
theorem Rel.putsl {Γ : Ctx} {M : Nat → Nat → Prop} {Ow : Loc → Nat → Option Nat} {a : Act} {w w' : World} (hr : Rel P Γ M Ow n m a w) {d : Nat} (hd : d < n) (hpn : Γ.pin (.l d) = none) (hf : refsM (.l d) m = false) {e : TypeId} {cells : List AV} {carr : Array Value} {len cap : Nat}
    (hbel : Below w.heap.size w w') (hnew : w'.heap[w.heap.size]? = some (.cells carr e (0, 0))) (hs : carr.size = cells.length) (h1 : ∀ (k : Nat) (u : Value), carr[k]? = some u → u.oneCell' = true)
    (hc : ∀ (i : Nat) (y : AV) (v : Value), cells[i]? = some y → carr[i]? = some v → SRel P w M Ow y v none) (hrc : refsL (.l d) cells = false) (hlc : len ≤ cap) :
    RelX P Γ n ((.s d, .sl (.l d) len cap) :: (.l d, .blk e cells) :: m) (a.put (some d) (.slice (some ⟨w.heap.size, 0, none⟩) len cap)) w' := by
  have h1' := hr.ext (w' := w') (M' := M) hbel (fun _ _ h => h) (fun _ _ h => .inl h) (fun b o hm => Nat.lt_of_lt_of_le (hr.mlt b o hm) hbel.size)
  have h2 := h1'.addblk (κ := .l d) rfl hpn hf (b := w.heap.size) hnew (fun l i e => absurd (hr.lt l i _ e) (Nat.lt_irrefl _)) hr.fr.size (fun o hm => absurd (hr.mlt _ _ hm) (Nat.lt_irrefl _)) hs h1 (fun i y v hy hv =>
    (hc i y v hy hv).mono (fun b o hm => ⟨hm, hbel.cell (p := ⟨b, o, none⟩) (hr.mlt b o hm)⟩) (fun κ b _ _ e => e) (fun b e => by cases e)) hrc
  exact ⟨_, _, h2.put hd (.sl (.l d) len cap w.heap.size rfl (by simp) hlc)⟩

def evBSl (tab : Tab) (m : Store) (d t len : Nat) (parts : List (Nat × Operand)) : Option R := match tlk tab t with
  | some ⟨_, _, .slice e, _⟩ => match tlk tab e with
    | some ⟨es, _, _, zs⟩ => match Nat.ble (len * es) 16777216, Nat.beq zs.length es, Nat.beq (len * es) 0 with
      | true, true, false => repK len zs fun cs => fillK m (fun i => some (i * es, es)) parts cs [] fun cells rs => match refsL (.l d) cells with
        | false => some ([.l d], rs, [(.s d, .sl (.l d) len len), (.l d, .blk e cells)])
        | true => none
      | _, _, _ => none
    | none => none
  | _ => none
theorem evBSl_ok {o : Oper} {d t len : Nat} {r : R} {parts : Array (Nat × Operand)} (hT : TabOk P tab) (hd : d < n) (hdst : o.dst = some d) (hop : ∀ (ρ : Operand → Value), execOp ρ o = (do pure (.value (← Instr.buildSlice t len (parts.map fun (i, x) => (i, ρ x)))))) (h : evBSl tab m d t len parts.toList = some r) : OSpec P n o m r := by
  unfold evBSl at h
  split at h
  · rename_i sz0 by0 e zs0 ht
    split at h
    · rename_i es by1 kind zs he
      split at h
      · rename_i hs1 hs2 hs3
        have hsm : len * es ≤ 16777216 := Nat.le_of_ble_eq_true hs1
        have hzl : zs.length = es := Nat.eq_of_beq_eq_true hs2
        have hne : len * es ≠ 0 := fun e => by rw [e] at hs3; cases hs3
        obtain ⟨ie, hie, hisz, _, _, ho, z, hz, hzs⟩ := hT.info he
        have hisz : ie.size = es := hisz
        obtain ⟨z1, z2, z3, z4⟩ := zsOk_all hzs ho
        have hzsz : z.cells.size = es := by rw [← hzl, z1]; simp
        have hes0 : es ≠ 0 := fun e => hne (by rw [e, Nat.mul_zero])
        obtain ⟨cs, h1, h2, h3⟩ := repK_eq h
        obtain ⟨cells', rs', h4, h5, h6⟩ := fillK_eq h1
        split at h4
        · rename_i hrc
          obtain rfl := Option.some.inj h4
          refine ⟨h5 trivial, fun m' hs hf => OAct.ofp fun Γ M Ow a w hpn hr => ?_⟩
          have hp : PFit P w M Ow cs ((Array.range (len * es)).map (z.cells[· % z.cells.size]!)) := by
            have at_ : ∀ {i : Nat} {u : Value}, ((Array.range (len * es)).map (z.cells[· % z.cells.size]!))[i]? = some u → i < len * es ∧ z.cells.toList[i % es]? = some u := by
              intro i u hu
              rw [Array.getElem?_map] at hu
              obtain ⟨j, hj, rfl⟩ := Option.map_eq_some_iff.1 hu
              have hil : i < len * es := by
                rcases Nat.lt_or_ge i (len * es) with h | h
                · exact h
                · rw [Array.getElem?_eq_none (by simpa using h)] at hj; cases hj
              have : j = i := by
                rw [Array.getElem?_eq_getElem (by simpa using hil)] at hj
                simpa using (Option.some.inj hj).symm
              subst this
              refine ⟨hil, ?_⟩
              have hm : j % es < z.cells.size := by rw [hzsz]; exact Nat.mod_lt _ (by omega)
              rw [hzsz]
              simp [hm]
            refine ⟨by simp [h2, hzl], ?_, ?_⟩
            · intro i u hu; exact z3 _ u (at_ hu).2
            · intro i y u hy hu
              obtain ⟨hil, hu'⟩ := at_ hu
              rw [h3 i (by rw [hzl]; exact hil), hzl] at hy
              exact z4 w M Ow _ y u hy hu'
          obtain ⟨carr', e1, e2⟩ := (h6 m' hs).2 P Γ M Ow n a w hr _ hp
          have hu := hT.slice ht rfl
          refine ⟨.slice (some ⟨w.heap.size, 0, none⟩) len len, w.alloc (.cells carr' e), ?_, ?_⟩
          · rw [hop]
            have := run_buildSlice (P := P) w t e len (parts.map fun (i, x) => (i, a.eval x)) carr' ie z hu hie hz (by rw [hisz]; omega) (by rw [hisz]; exact hne) (by rw [hisz]; simpa using e1)
            rw [Sem.run_bind, this]; rfl
          · rw [hdst]
            exact hr.putsl hd (hpn _ (by simp)) (hf _ (by simp)) (below_alloc w (.cells carr' e)) (alloc_at w _) e2.1 e2.2.1 e2.2.2 hrc (Nat.le_refl _)
        · cases h4
      · cases h
    · cases h
  · cases h
def evBSl' (tab : Tab) (n : Nat) (ops : List Oper) (o : Oper) (m : Store) : Option R := match o.op, o.dst, gOk m ops o.guard with
  | .buildSlice t len ps, some d, true => match Nat.blt d n with
    | true => evBSl tab m d t len ps.toList
    | false => none
  | _, _, _ => none
/-- A slice made of parts, with its block in sight. -/
theorem Sq.buildSl {ops l : List Oper} {o : Oper} {r : R} {m' : Store} {K : Store → Prop} (hT : TabOk P tab) (h : evBSl' tab n ops o m = some r) (hm : r.2.2 ++ m = m') (hf : (freshB r.1 m && pinB r.1 G.pins) = true) (k : Sq P G n ops l m' K) : Sq P G n ops (o :: l) m K := by
  subst hm
  obtain ⟨dst, op, type, pos, after, guard⟩ := o
  unfold evBSl' at h
  simp only at h
  split at h
  · rename_i t len ps d' hgd
    split at h
    · rename_i hlt
      exact Sq.spec hgd (evBSl_ok (o := ⟨some d', .buildSlice t len ps, type, pos, after, guard⟩) hT (Nat.lt_of_succ_le (Nat.le_of_ble_eq_true hlt)) rfl (fun ρ => rfl) h) hf k
    · cases h
  · cases h

/-! make -/
def evMake (tab : Tab) (n : Nat) (ops : List Oper) (o : Oper) (m : Store) : Option (TypeId × AV × Nat × Int × Int × Nat) := match o.op, o.dst, gOk m ops o.guard with
  | .makeSlice t l c, some d, true => match Nat.blt d n, tlk tab t with
    | true, some ⟨_, _, .slice e, _⟩ => match tlk tab e, opV m l, opV m c with
      | some ⟨1, bytes, _, [z]⟩, some (.tr (.sc (.int _ j))), some (.tr (.sc (.int _ j'))) => some (e, z, bytes, j, j', d)
      | _, _, _ => none
    | _, _ => none
  | _, _, _ => none
theorem Sq.make {ops l : List Oper} {o : Oper} {e : TypeId} {z : AV} {bytes d : Nat} {j j' : Int} {K : Store → Prop} (hT : TabOk P tab) (h : evMake tab n ops o m = some (e, z, bytes, j, j', d)) (hj : j = j') (h0 : 0 ≤ j) (hb : (bytes : Int) * j ≤ 281474976710656) (h63 : j ≤ 9223372036854775807)
    (hf : (freshB [.l d] m && pinB [.l d] G.pins) = true) (k : Sq P G n ops l ((.s d, .sl (.l d) j.toNat j.toNat) :: (.l d, .blk e (List.replicate j.toNat z)) :: m) K) : Sq P G n ops (o :: l) m K := by
  subst hj
  obtain ⟨dst, op, type, pos, after, guard⟩ := o
  unfold evMake at h
  simp only at h
  split at h
  · rename_i t ol oc d' hgd
    split at h
    · rename_i e' _ hlt ht
      split at h
      · rename_i bytes' kind z' kl jl kc jc he hvl hvc
        simp only [Option.some.injEq, Prod.mk.injEq] at h
        obtain ⟨rfl, rfl, rfl, rfl, rfl, rfl⟩ := h
        have hd : d' < n := Nat.lt_of_succ_le (Nat.le_of_ble_eq_true hlt)
        rw [Bool.and_eq_true] at hf
        refine Sq.step (fr := [.l d']) ?_ (pinB_eq hf.2) k
        rintro Γ a w hpn ⟨M, Ow, hr⟩
        rw [if_pos (wanted_of hgd hr)]
        refine OAct.ofp (fr := [.l d']) (m := m) (fun Γ M Ow a w hpn hr => ?_) Γ a w hpn ⟨M, Ow, hr⟩
        obtain ⟨ie, hie, hisz, hby, _, ho, zv, hz, hzs⟩ := hT.info he
        obtain ⟨z1, z2, z3, z4⟩ := zsOk_all hzs ho
        obtain ⟨q1, hq1⟩ := opV_ok hvl hr
        obtain ⟨q2, hq2⟩ := opV_ok hvc hr
        have e1 := (sc_eval (Γ := Γ) hq1).1
        have e2 := (sc_eval (Γ := Γ) hq2).1
        have hu := hT.slice ht rfl
        have hisz : ie.size = 1 := hisz
        have hby : ie.bytes = bytes' := hby
        have hrun := run_make (P := P) w t e' ie zv hu hie hz kl kc jc jc h0 (Int.le_refl _) (by rw [hby]; exact hb) h63
        refine ⟨_, _, by simp only [execOp, e1, e2]; rw [Sem.run_bind, hrun]; rfl, ?_⟩
        obtain ⟨zc, hzc⟩ : ∃ zc, zv.cells = #[zc] := by
          have : zv.cells.size = 1 := by have := z1; simpa using this.symm
          refine ⟨zv.cells[0], ?_⟩
          apply Array.ext
          · simp [this]
          · intro i h1 h2
            obtain rfl : i = 0 := by omega
            rfl
        have hmk : (madeCells zv.cells (jc.toNat * ie.size)) = (List.replicate jc.toNat zc).toArray := by
          rw [hzc, hisz, Nat.mul_one, ← toList_madeCells_one]
        rw [hmk]
        have at_ : ∀ {i : Nat} {u : Value}, (List.replicate jc.toNat zc).toArray[i]? = some u → u = zc := by
          intro i u hu
          rw [List.getElem?_toArray] at hu
          exact List.eq_of_mem_replicate (List.mem_of_getElem? hu)
        refine hr.putsl hd (hpn _ (by simp)) (freshB_eq hf.1 _ (by simp)) (below_alloc w _) (alloc_at w _) (by simp) ?_ ?_ ?_ (Nat.le_refl _)
        · intro i u hu
          rw [at_ hu]
          exact z3 0 zc (by rw [hzc]; rfl)
        · intro i y u hy hu
          rw [at_ hu, List.eq_of_mem_replicate (List.mem_of_getElem? hy)]
          exact z4 w M Ow 0 z' zc rfl (by rw [hzc]; rfl)
        · have h1 := z2 (.l d')
          simp only [refsL, Bool.or_false] at h1
          cases hh : refsL (.l d') (List.replicate jc.toNat z') with
          | false => rfl
          | true =>
            exfalso
            have : ∀ k, refsL (.l d') (List.replicate k z') = false := by
              intro k
              induction k with
              | zero => rfl
              | succ k ih => simp only [List.replicate_succ, refsL, h1, ih, Bool.or_false]
            rw [this] at hh; cases hh
      · cases h
    · cases h
  · cases h

/-! len, an element's place, load, store -/
def evLenS (tab : Tab) (n : Nat) (ops : List Oper) (o : Oper) (m : Store) : Option (Nat × Nat) := match o.op, o.dst, gOk m ops o.guard with
  | .call ⟨.builtin .len, ⟨[x]⟩, ⟨[t]⟩⟩, some d, true => match Nat.blt d n, tlk tab t, opV m x with
    | true, some ⟨_, _, .slice _, _⟩, some (.sl _ len _) => some (len, d)
    | _, _, _ => none
  | _, _, _ => none
theorem sl_eval {x : Operand} {κ : Loc} {len cap : Nat} {w : World} {M : Nat → Nat → Prop} {Ow : Loc → Nat → Option Nat} {a : Act} {o : Option Nat} (h : SRel P w M Ow (.sl κ len cap) (a.eval x) o) :
    ∃ b, κ.isBlk = true ∧ Ow κ 0 = some b ∧ len ≤ cap ∧ a.eval x = .slice (some ⟨b, 0, none⟩) len cap := by
  have h : VRel w M (fun κ => Ow κ 0) (.sl κ len cap) (a.eval x) := h
  generalize a.eval x = q at h
  cases h with | sl _ _ _ b hk hb hc => exact ⟨b, hk, hb, hc, rfl⟩
theorem len_run {o : Oper} {t et : TypeId} {x : Operand} {a : Act} {ad : Option Addr} {len cap : Nat} (hu : P.underlying t = some (.slice et)) (hop : ∀ (ρ : Operand → Value), execOp ρ o = (do pure (.value (← Builtin.len_ #[t] o.type #[ρ x])))) (e : a.eval x = .slice ad len cap) (w : World) :
    (execOp a.eval o).run P w = .ok (.value (.int .i64 (len : Int))) w := by
  rw [hop, e]; simp [Builtin.len_, run_underlying hu, goInt]
theorem Sq.lenS {ops l : List Oper} {o : Oper} {len d : Nat} {K : Store → Prop} (hT : TabOk P tab) (h : evLenS tab n ops o m = some (len, d)) (k : Sq P G n ops l ((.s d, .tr (.sc (.int .i64 (len : Int)))) :: m) K) : Sq P G n ops (o :: l) m K := by
  obtain ⟨dst, op, type, pos, after, guard⟩ := o
  unfold evLenS at h
  simp only at h
  split at h
  · rename_i x t d' hgd
    split at h
    · rename_i e _ κ len' cap hlt ht hv
      simp only [Option.some.injEq, Prod.mk.injEq] at h
      obtain ⟨rfl, rfl⟩ := h
      refine Sq.do hgd (fun Γ M Ow a w hr => ?_) k
      obtain ⟨q, hq⟩ := opV_ok hv hr
      obtain ⟨b, _, _, _, e⟩ := sl_eval hq
      have hu := hT.slice ht rfl
      exact ⟨.int .i64 (len' : Int), w, len_run hu (fun ρ => by simp [execOp, resolve, invoke, builtin]) e w, M, Ow, hr.put (Nat.lt_of_succ_le (Nat.le_of_ble_eq_true hlt)) (.tr _ _ (.sc _ rfl))⟩
    · cases h
  · cases h

def evIdxS (tab : Tab) (n : Nat) (ops : List Oper) (o : Oper) (m : Store) : Option (Loc × Nat × Nat × Int × Nat) := match o.op, o.dst, gOk m ops o.guard with
  | .indexAddr t x i, some d, true => match Nat.blt d n, tlk tab t with
    | true, some ⟨_, _, .slice e, _⟩ => match tlk tab e, opV m x, opV m i with
      | some ⟨es, _, _, _⟩, some (.sl κ len _), some (.tr (.sc (.int _ j))) => some (κ, len, es, j, d)
      | _, _, _ => none
    | _, _ => none
  | _, _, _ => none
theorem Sq.indexS {ops l : List Oper} {o : Oper} {κ : Loc} {len es d : Nat} {j : Int} {K : Store → Prop} (hT : TabOk P tab) (h : evIdxS tab n ops o m = some (κ, len, es, j, d)) (h0 : 0 ≤ j) (hj : j < len)
    (k : Sq P G n ops l ((.s d, .ptr κ (j.toNat * es)) :: m) K) : Sq P G n ops (o :: l) m K := by
  obtain ⟨dst, op, type, pos, after, guard⟩ := o
  unfold evIdxS at h
  simp only at h
  split at h
  · rename_i t ox oi d' hgd
    split at h
    · rename_i e _ hlt ht
      split at h
      · rename_i es' _ _ _ κ' len' cap ik j' he hv hi
        simp only [Option.some.injEq, Prod.mk.injEq] at h
        obtain ⟨rfl, rfl, rfl, rfl, rfl⟩ := h
        refine Sq.do hgd (fun Γ M Ow a w hr => ?_) k
        obtain ⟨q1, hq1⟩ := opV_ok hv hr
        obtain ⟨q2, hq2⟩ := opV_ok hi hr
        have e2 := (sc_eval (Γ := Γ) hq2).1
        obtain ⟨b, hk, hb, _, e1⟩ := sl_eval hq1
        obtain ⟨ie, hie, hsz, _⟩ := hT.info he
        have hsz : ie.size = es' := hsz
        have hu := hT.slice ht rfl
        have hin : 0 ≤ j' ∧ j' < (len' : Int) := ⟨h0, hj⟩
        refine ⟨.pointer (some ⟨b, j'.toNat * es', none⟩), w, ?_, M, Ow, hr.put (Nat.lt_of_succ_le (Nat.le_of_ble_eq_true hlt)) (.ptr κ' _ b hk hb)⟩
        simp [execOp, e1, e2, Instr.indexAt, asIntOf, run_underlying hu, hin, sizeOf, typeInfo, hie, hsz, add_lit]
      · cases h
    · cases h
  · cases h

def evNilC (n : Nat) (ops : List Oper) (o : Oper) (m : Store) : Option (Loc × Nat × Nat) := match o.op, o.dst, gOk m ops o.guard with
  | .nilCheck x, some d, true => match Nat.blt d n, opV m x with
    | true, some (.ptr κ off) => some (κ, off, d)
    | _, _ => none
  | _, _, _ => none
theorem Sq.nilC {ops l : List Oper} {o : Oper} {κ : Loc} {off d : Nat} {K : Store → Prop} (h : evNilC n ops o m = some (κ, off, d)) (k : Sq P G n ops l ((.s d, .ptr κ off) :: m) K) : Sq P G n ops (o :: l) m K := by
  obtain ⟨dst, op, type, pos, after, guard⟩ := o
  unfold evNilC at h
  simp only at h
  split at h
  · rename_i x d' hgd
    split at h
    · rename_i κ' off' hlt hv
      simp only [Option.some.injEq, Prod.mk.injEq] at h
      obtain ⟨rfl, rfl, rfl⟩ := h
      refine Sq.do hgd (fun Γ M Ow a w hr => ?_) k
      obtain ⟨q1, hq1⟩ := opV_ok hv hr
      obtain ⟨b, hk, hb, e1⟩ := opK_ptr (v := .unk) (Γ := Γ) (rs := []) hq1
      exact ⟨.pointer (some ⟨b, off', none⟩), w, by simp [execOp, e1, Instr.sureAddr], M, Ow, hr.put (Nat.lt_of_succ_le (Nat.le_of_ble_eq_true hlt)) (.ptr κ' _ b hk hb)⟩
    · cases h
  · cases h

def evLoadS (tab : Tab) (n : Nat) (ops : List Oper) (o : Oper) (m : Store) : Option (List AV × Nat × Nat) := match o.op, o.dst, gOk m ops o.guard with
  | .load t (.tmp p), some d, true => match Nat.blt d n, tlk tab t, lk m (.s p) with
    | true, some ⟨_, _, kind, _⟩, some (.ptr κ off) => match kind.agg, lk m κ with
      | false, some (.blk _ cells) => some (cells, off, d)
      | _, _ => none
    | _, _, _ => none
  | _, _, _ => none
theorem Sq.loadS {ops l : List Oper} {o : Oper} {cells : List AV} {off d : Nat} {v : AV} {K : Store → Prop} (hT : TabOk P tab) (h : evLoadS tab n ops o m = some (cells, off, d)) (hv : cells[off]? = some v) (k : Sq P G n ops l ((.s d, v.deg) :: m) K) : Sq P G n ops (o :: l) m K := by
  obtain ⟨dst, op, type, pos, after, guard⟩ := o
  unfold evLoadS at h
  simp only at h
  split at h
  · rename_i t p d' hgd
    split at h
    · rename_i kind _ κ off' hlt ht hp
      split at h
      · rename_i ty cells' hagg hκ
        simp only [Option.some.injEq, Prod.mk.injEq] at h
        obtain ⟨rfl, rfl, rfl⟩ := h
        refine Sq.do hgd (fun Γ M Ow a w hr => ?_) k
        obtain ⟨b, hk, hb, e1⟩ := opK_ptr (x := .tmp p) (a := a) (o := Ow (.s p) 0) (v := .unk) (Γ := Γ) (rs := []) (hr.slot p _ hp)
        obtain ⟨ty0, cells0, b0, cs, e0, ho, hh, hs', hn, h1, hcs⟩ := hr.blk κ _ hk hκ
        obtain ⟨rfl, rfl⟩ : ty = ty0 ∧ cells' = cells0 := by injection e0 with e1 e2; exact ⟨e1, e2⟩
        obtain rfl : b = b0 := by rw [hb] at ho; exact Option.some.inj ho
        have hlt2 : off' < cs.size := by
          rw [hs']
          rcases Nat.lt_or_ge off' cells'.length with h | h
          · exact h
          · rw [List.getElem?_eq_none h] at hv; cases hv
        have hcell : w.cell? ⟨b, off', none⟩ = some cs[off'] := by simp [World.cell?, hh, hlt2]
        have hrun := run_loadVar_one hT ht hagg hcell
        have := deg_vrel (hcs off' v cs[off'] hv (by simp [hlt2]))
        exact ⟨cs[off'], w, by simp only [execOp]; rw [e1, Sem.run_bind, hrun]; rfl, M, Ow, hr.put (Nat.lt_of_succ_le (Nat.le_of_ble_eq_true hlt)) this⟩
      · cases h
    · cases h
  · cases h

def oneAV : AV → Bool
  | .tr (.sc _) => true
  | .tr (.ls _) => true
  | .ptr _ _ => true
  | .sl _ _ _ => true
  | .fn _ _ => true
  | _ => false
theorem oneAV_ok {v : AV} (h : oneAV v = true) {w : World} {M : Nat → Nat → Prop} {bk : Loc → Option Nat} {cv : Value} (hv : VRel w M bk v cv) : cv.oneCell' = true ∧ v.isOwn = false := by
  unfold oneAV at h
  split at h
  · cases hv with | tr _ _ h => cases h with | sc _ h => exact ⟨h, rfl⟩
  · cases hv with | tr _ _ h => cases h <;> exact ⟨rfl, rfl⟩
  · cases hv; exact ⟨rfl, rfl⟩
  · cases hv; exact ⟨rfl, rfl⟩
  · cases hv; exact ⟨rfl, rfl⟩
  · cases h
def evStoreS (tab : Tab) (n : Nat) (ops : List Oper) (o : Oper) (m : Store) : Option (Loc × TypeId × List AV × Nat × AV) := match o.op, o.dst, gOk m ops o.guard with
  | .store t (.tmp p) x, none, true => match tlk tab t, lk m (.s p), opV m x with
    | some ⟨1, _, _, _⟩, some (.ptr κ off), some v => match κ.isL, lk m κ, oneAV v.deg with
      | true, some (.blk ty cells), true => some (κ, ty, cells, off, v.deg)
      | _, _, _ => none
    | _, _, _ => none
  | _, _, _ => none
theorem Sq.storeS {ops l : List Oper} {o : Oper} {κ : Loc} {ty : TypeId} {cells : List AV} {off : Nat} {v : AV} {K : Store → Prop} (hT : TabOk P tab) (h : evStoreS tab n ops o m = some (κ, ty, cells, off, v)) (hlt : off < cells.length)
    (k : Sq P G n ops l ((κ, .blk ty (cells.set off v)) :: m) K) : Sq P G n ops (o :: l) m K := by
  obtain ⟨dst, op, type, pos, after, guard⟩ := o
  unfold evStoreS at h
  simp only at h
  split at h
  · rename_i t p x hgd
    split at h
    · rename_i _ _ _ κ' off' v' ht hp hx
      split at h
      · rename_i ty' cells' hL hκ hone
        simp only [Option.some.injEq, Prod.mk.injEq] at h
        obtain ⟨rfl, rfl, rfl, rfl, rfl⟩ := h
        refine Sq.step (m' := (κ', .blk ty' (cells'.set off' v'.deg)) :: m) (fr := []) ?_ (fun κ h => by cases h) k
        rintro Γ a w hpn ⟨M, Ow, hr⟩
        rw [if_pos (wanted_of hgd hr)]
        refine OAct.of_skip (fr := []) (fun Γ M Ow a w hr => ?_) Γ a w hpn ⟨M, Ow, hr⟩
        obtain ⟨b, hk, hb, e1⟩ := opK_ptr (x := .tmp p) (a := a) (o := Ow (.s p) 0) (v := .unk) (Γ := Γ) (rs := []) (hr.slot p _ hp)
        obtain ⟨ty0, cells0, b0, cs, e0, ho, hh, hs', hn, h1, hcs⟩ := hr.blk κ' _ hk hκ
        obtain ⟨rfl, rfl⟩ : ty' = ty0 ∧ cells' = cells0 := by injection e0 with e1 e2; exact ⟨e1, e2⟩
        obtain rfl : b = b0 := by rw [hb] at ho; exact Option.some.inj ho
        obtain ⟨q, hq⟩ := opV_ok hx hr
        have hv := deg_vrel hq
        obtain ⟨o1, o2⟩ := oneAV_ok hone hv
        have hcl := one_cells o1
        obtain ⟨c1, c2, c3⟩ := one_rel hv o1
        have hst := run_store_at (off := off') hT ht hh (v := a.eval x) (by rw [hcl]; rfl) (by simp; omega) c2
        refine ⟨_, by simp only [execOp]; rw [e1, Sem.run_bind, hst]; rfl, ?_⟩
        have hwr := hr.write (vs := [v'.deg]) hL hκ (off := off') hb hh hs' (by simp; omega) c1 c2 (fun i y u hy hu => srel_of (c3 i y u hy hu) _)
        have e : cells'.take off' ++ [v'.deg] ++ cells'.drop (off' + [v'.deg].length) = cells'.set off' v'.deg := by
          rw [List.set_eq_take_append_cons_drop, if_pos hlt]; simp
        rw [e] at hwr
        exact ⟨M, Ow, hwr⟩
      · cases h
    · cases h
  · cases h

/-! A slice that is written no more. -/
def delL (κ : Loc) : Store → Store
  | [] => []
  | (l, v) :: r => match l.eqb κ with
    | true => delL κ r
    | false => (l, v) :: delL κ r
theorem lk_del {κ : Loc} : ∀ {m : Store} {l : Loc}, lk (delL κ m) l = if l = κ then none else lk m l
  | [], l => by simp [delL, lk]
  | (k, v) :: r, l => by
    simp only [delL]
    cases h : k.eqb κ with
    | true =>
      obtain rfl := Loc.eqb_iff.1 h
      simp only
      rw [lk_del, lk_cons]
      split
      · rfl
      · rename_i h2; rw [if_neg (fun e => h2 e.symm)]
    | false =>
      simp only
      rw [lk_cons, lk_cons, lk_del]
      split
      · rename_i e; subst e
        rw [if_neg (fun e => by rw [e, Loc.eqb_self] at h; cases h)]
      · rfl
theorem Rel.addM {Γ : Ctx} {M : Nat → Nat → Prop} {Ow : Loc → Nat → Option Nat} {a : Act} {w : World} (h : Rel P Γ M Ow n m a w) {κ : Loc} {b N : Nat} (hL : κ.isL = true) (hb : Ow κ 0 = some b) (hno : lk m κ = none) :
    Rel P Γ (fun c o => M c o ∨ (c = b ∧ o < N)) Ow n m a w := by
  have sr : ∀ {l : Loc} {i : Nat} {x : AV} {v : Value}, (l ≠ κ ∨ i ≠ 0) → SRel P w M Ow x v (Ow l i) → SRel P w (fun c o => M c o ∨ (c = b ∧ o < N)) Ow x v (Ow l i) := fun hne hv =>
    hv.mono (fun c o hc => ⟨.inl hc, rfl⟩) (fun _ _ _ _ e => e) (fun c e => ⟨e, fun cs ty hc => hc, fun k hk => by
      rcases hk with hk | ⟨rfl, _⟩
      · exact hk
      · have := h.inj _ _ _ _ _ e hb
        rcases hne with h1 | h1
        · exact absurd this.1 h1
        · exact absurd this.2 h1⟩)
  exact {
    size := h.size
    defers := h.defers
    slot := fun t v hv => sr (.inl (fun e => by rw [← e] at hL; cases hL)) (h.slot t v hv)
    blk := fun κ' v hk hv => by
      obtain ⟨ty, cells, c, cs, rfl, ho, hc, hsz, hn, h1, h2⟩ := h.blk κ' v hk hv
      refine ⟨ty, cells, c, cs, rfl, ho, hc, hsz, ?_, h1, fun i y v hy hv => sr (.inr (Nat.succ_ne_zero i)) (h2 i y v hy hv)⟩
      rintro o (hM | ⟨rfl, _⟩)
      · exact hn o hM
      · have := (h.inj _ _ _ _ _ ho hb).1
        subst this; rw [hno] at hv; cases hv
    inj := h.inj
    lt := h.lt
    mine := h.mine
    mlt := fun c o hc => by
      rcases hc with hc | ⟨rfl, _⟩
      · exact h.mlt c o hc
      · exact h.lt _ _ _ hb
    mold := fun c o hc => .inl (h.mold c o hc)
    mnew := fun c o hc => by
      rcases hc with hc | ⟨rfl, _⟩
      · exact h.mnew c o hc
      · rcases h.mineL (fun j e => by rw [e] at hL; cases hL) hb with h1 | h1
        · exact .inr (.inl h1)
        · exact .inr (.inr h1)
    fr := h.fr
    pin := h.pin }
theorem RelX.freeze {Γ : Ctx} {a : Act} {w : World} (h : RelX P Γ n m a w) {s : Nat} {κ : Loc} {len cap es : Nat} {e : TypeId} {cells : List AV} {xs : List T} (hs : lk m (.s s) = some (.sl κ len cap)) (hb : lk m κ = some (.blk e cells)) (hL : κ.isL = true)
    (hlen : xs.length = len) (hsz : len * es ≤ cells.length) (hx : ∀ x, x ∈ xs → x.cells.length = es) (hc : ∀ (i j : Nat) (x y : T), xs[i]? = some x → x.cells[j]? = some y → ∃ v, cells[i * es + j]? = some v ∧ v.deg = .tr y) :
    RelX P Γ n ((.s s, .tr (.ls xs)) :: delL κ m) a w := by
  obtain ⟨M, Ow, hr⟩ := h
  have hkb := Loc.isL_blk hL
  have hv : VRel w M (fun κ => Ow κ 0) (.sl κ len cap) (a.tmps.getD s undef) := hr.slot s _ hs
  obtain ⟨b, ho, hcap, hval⟩ : ∃ b, Ow κ 0 = some b ∧ len ≤ cap ∧ a.tmps.getD s undef = .slice (some ⟨b, 0, none⟩) len cap := by
    generalize a.tmps.getD s undef = q at hv
    cases hv with | sl _ _ _ b hk hb hc => exact ⟨b, hb, hc, rfl⟩
  obtain ⟨ty0, cells0, b0, cs, e0, ho', hh, hs', hn, h1, hcs⟩ := hr.blk κ _ hkb hb
  obtain ⟨rfl, rfl⟩ : e = ty0 ∧ cells = cells0 := by injection e0 with e1 e2; exact ⟨e1, e2⟩
  obtain rfl : b = b0 := by rw [ho] at ho'; exact Option.some.inj ho'
  have hd : Rel P Γ M Ow n (delL κ m) a w := hr.sub (fun l v hl => by
    rw [lk_del] at hl
    split at hl
    · cases hl
    · exact hl)
  have hM := hd.addM (N := len * es) hL ho (by rw [lk_del, if_pos rfl])
  refine ⟨_, Ow, hM.label ?_⟩
  have lin : ∀ {i j : Nat}, i < xs.length → j < es → i * es + j < len * es := by
    intro i j hi hj
    have : (i + 1) * es ≤ len * es := Nat.mul_le_mul_right _ (by omega)
    rw [Nat.succ_mul] at this; omega
  rw [hval, ← hlen]
  refine VRel.tr _ _ ?_
  by_cases h0 : xs.length = 0
  · obtain rfl := List.eq_nil_of_length_eq_zero h0
    exact .nil _ _
  · refine .ls xs b 0 es cap (fun i j => cs.getD (i * es + j) undef) (by omega) hx ?_ ?_ ?_ ?_
    · intro i j hi hj; exact .inr ⟨rfl, by rw [Nat.zero_add, hlen]; exact lin hi hj⟩
    · intro i j hi hj
      have := lin hi hj
      have hl : i * es + j < cs.size := by omega
      simp [World.cell?, hh, hl]
    · intro i j hi hj
      have := lin hi hj
      have hl : i * es + j < cs.size := by omega
      have := h1 (i * es + j) cs[i * es + j] (by simp [hl])
      simpa [hl] using this
    · intro i j x y hxi hyj
      obtain ⟨v, hv1, hv2⟩ := hc i j x y hxi hyj
      have hil : i < xs.length := by
        rcases Nat.lt_or_ge i xs.length with h | h
        · exact h
        · rw [List.getElem?_eq_none h] at hxi; cases hxi
      have hjl : j < es := by
        have := hx x (List.mem_of_getElem? hxi)
        rcases Nat.lt_or_ge j x.cells.length with h | h
        · omega
        · rw [List.getElem?_eq_none h] at hyj; cases hyj
      have := lin hil hjl
      have hl : i * es + j < cs.size := by omega
      have h3 := deg_vrel (hcs (i * es + j) v cs[i * es + j] hv1 (by simp [hl]))
      rw [hv2] at h3
      have h4 : Rep w M y cs[i * es + j] := by cases h3 with | tr _ _ h => exact h
      have e : cs.getD (i * es + j) undef = cs[i * es + j] := by simp [hl]
      rw [e]
      exact h4.mono (fun c o hc => ⟨.inl hc, rfl⟩)
theorem Tr.turn {c : Code} {Q : Exit → Store → Prop} {m' : Store} (ht : ∀ Γ a w, RelX P Γ n m a w → RelX P Γ n m' a w) (k : Tr P G n c m' Q) : Tr P G n c m Q := fun Γ hΓ a w hr => k Γ hΓ a w (ht Γ a w hr)
theorem Sq.turn {ops l : List Oper} {K : Store → Prop} {m' : Store} (ht : ∀ Γ a w, RelX P Γ n m a w → RelX P Γ n m' a w) (k : Sq P G n ops l m' K) : Sq P G n ops l m K := fun Γ hΓ a w hr Q hQ => k Γ hΓ a w (ht Γ a w hr) Q hQ
/-- One-cell elements. -/
theorem RelX.freeze1 {Γ : Ctx} {a : Act} {w : World} (h : RelX P Γ n m a w) {s : Nat} {κ : Loc} {cap : Nat} {e : TypeId} {xs : List T} (hs : lk m (.s s) = some (.sl κ xs.length cap)) (hb : lk m κ = some (.blk e (xs.map .tr))) (hL : κ.isL = true) (hx : ∀ x, x ∈ xs → x.cells = [x]) :
    RelX P Γ n ((.s s, .tr (.ls xs)) :: delL κ m) a w :=
  h.freeze (es := 1) hs hb hL rfl (by simp) (fun x hm => by rw [hx x hm]; rfl) (fun i j x y hxi hyj => by
    have hm := hx x (List.mem_of_getElem? hxi)
    rw [hm] at hyj
    obtain rfl : j = 0 := by
      cases j with
      | zero => rfl
      | succ j => simp at hyj
    simp at hyj; subst hyj
    exact ⟨.tr x, by simp [hxi], rfl⟩)
end
end Go.Lg

set_option linter.unusedVariables false
set_option linter.unusedSimpArgs false
namespace Go.Lg
open Go Go.RowKit

section
variable {P : Program} {G : Env} {n : Nat} {tab : Tab} {m : Store}
def evRaw (n : Nat) (ops : List Oper) (o : Oper) (m : Store) : Option (FuncId × List Value × Nat) := match o.op, o.dst, gOk m ops o.guard with
  | .call ⟨.value (.func f), args, _⟩, some d, true => match Nat.blt d n, valsO m args.toList with
    | true, some vs => some (f, vs, d)
    | _, _ => none
  | _, _, _ => none
theorem Sq.raw {ops l : List Oper} {o : Oper} {f : FuncId} {vs : List Value} {d : Nat} {K : Store → Prop} {m' : Store} {fr : List Loc} {Post : World → Value → World → Prop} (h : evRaw n ops o m = some (f, vs, d)) (hcl : Callable P f)
    (hc : ∀ w, Calls P f vs.toArray w fun e w' => ∃ v, e = .returned v ∧ Post w v w') (hf : (freshB fr m && pinB fr G.pins) = true)
    (hp : ∀ (Γ : Ctx) (M : Nat → Nat → Prop) (Ow : Loc → Nat → Option Nat) (a : Act) (w : World) (v : Value) (w' : World), (∀ κ, κ ∈ fr → Γ.pin κ = none) → Rel P Γ M Ow n m a w → d < n → Post w v w' → RelX P Γ n m' (a.put (some d) v) w')
    (k : Sq P G n ops l m' K) : Sq P G n ops (o :: l) m K := by
  obtain ⟨dst, op, type, pos, after, guard⟩ := o
  unfold evRaw at h
  simp only at h
  split at h
  · rename_i f' cargs ats d' hgd
    split at h
    · rename_i vs' hlt hvs
      simp only [Option.some.injEq, Prod.mk.injEq] at h
      obtain ⟨rfl, rfl, rfl⟩ := h
      have hd : d' < n := Nat.lt_of_succ_le (Nat.le_of_ble_eq_true hlt)
      rw [Bool.and_eq_true] at hf
      obtain ⟨fn, hfn, hname, hbody⟩ := hcl
      intro Γ hΓ a w hr Q hQ
      obtain ⟨M, Ow, hr⟩ := hr
      have hpn : ∀ κ, κ ∈ fr → Γ.pin κ = none := fun κ hk => by
        cases hx : Γ.pin κ with
        | none => rfl
        | some b => exact absurd (hΓ.2 κ (by rw [hx]; simp)) (pinB_eq hf.2 κ hk)
      have hw := wanted_of hgd hr (o := ⟨some d', .call ⟨.value (.func f'), cargs, ats⟩, type, pos, after, guard⟩)
      have hrun : (execOp a.eval (⟨some d', .call ⟨.value (.func f'), cargs, ats⟩, type, pos, after, guard⟩ : Oper)).run P w = .ok (.enter f' vs'.toArray) w := by
        have hname' : ¬ fn.name = "runtime.NumGoroutine" := by simpa using hname
        have hbody' : ¬ fn.body = none := fun e => by rw [e] at hbody; cases hbody
        have hv : cargs.map a.eval = vs'.toArray := by
          have := valsO_ok hr hvs
          rw [← this, ← Array.toList_map]
        have hfe : a.eval (.func f') = .func (.func f') #[] #[] := rfl
        simp [execOp, resolve, Deferred.ofValue, hfe, invoke, callFunc, hfn, hname', hbody', hv]
      unfold wpListIn
      rw [if_pos hw]
      refine ⟨fun _ _ => trivial, ?_⟩
      rw [show (FW Γ.rd).round = Γ.rd from rfl, semAt_of Γ.rd hrun (fun d e => by cases e), Oper.uponIn_enter]
      refine ⟨fun h => Bool.noConfusion (show false = true from h), FW.calls ((hc w).mono ?_)⟩
      rintro e w' ⟨v, rfl, hP⟩
      exact k Γ hΓ _ w' (hp Γ M Ow a w v w' hpn hr hd hP) Q hQ
    · cases h
  · cases h

/-- A sequence, cut: what the rest leans on. -/
theorem Tr.cut {x y : Code} {Q : Exit → Store → Prop} (S0 : Store) (h : Tr P G n x m (thenQ (fun m' => Sub S0 m') Q)) (k : Tr P G n y S0 Q) : Tr P G n (.seq x y) m Q :=
  Tr.seq (h.mono fun e m' hq => by
    cases e with
    | normal => exact fun Γ hΓ a w hr => k Γ hΓ a w (hr.sub hq)
    | _ => exact hq)
/-- A step in a region that draws its order, whose value is said otherwise. -/
theorem DSq.evr {ops l : List Oper} {o : Oper} {rs : List (Loc × AV)} {d : Nat} {v v' : AV} {m' : Store} {fs : List Fp} (hT : TabOk P tab) (h : evD tab n ops o m = some (⟨[], rs, [(.s d, v)]⟩, (.s d, v) :: m)) (e : v = v') (k : DSq P G n ops l ((.s d, v') :: m) fs m') :
    DSq P G n ops (o :: l) m (⟨[], rs, [(.s d, v')]⟩ :: fs) m' := by
  subst e
  exact DSq.ev hT h rfl k
/-- Three new blocks and a closure over them. -/
theorem Rel.put3 {Γ : Ctx} {M : Nat → Nat → Prop} {Ow : Loc → Nat → Option Nat} {a : Act} {w : World} (h : Rel P Γ M Ow n m a w) {d : Nat} (hd : d < n) {κ0 κ1 κ2 : Loc} (h3 : (κ0.isL && κ1.isL && κ2.isL && !κ0.eqb κ1 && !κ0.eqb κ2 && !κ1.eqb κ2) = true) (hpn : ∀ κ, κ ∈ [κ0, κ1, κ2] → Γ.pin κ = none) (hf : freshB [κ0, κ1, κ2] m = true)
    {t0 t1 t2 : TypeId} {v0 v1 v2 : Value} (o0 : v0.oneCell' = true) (o1 : v1.oneCell' = true) (o2 : v2.oneCell' = true) (gf : FuncId) :
    RelX P Γ n ((.s d, .fn gf [.ptr κ1 0, .ptr κ0 0, .ptr κ2 0]) :: (κ2, .blk t2 [.tr (.sc v2)]) :: (κ1, .blk t1 [.tr (.sc v1)]) :: (κ0, .blk t0 [.tr (.sc v0)]) :: m)
      (a.put (some d) (.func (.func gf) #[] #[.pointer (some ⟨w.heap.size + 1, 0, none⟩), .pointer (some ⟨w.heap.size, 0, none⟩), .pointer (some ⟨w.heap.size + 2, 0, none⟩)]))
      (((w.alloc (.cells #[v0] t0)).alloc (.cells #[v1] t1)).alloc (.cells #[v2] t2)) := by
  simp only [Bool.and_eq_true, Bool.not_eq_true'] at h3
  obtain ⟨⟨⟨⟨⟨l0, l1⟩, l2⟩, n01⟩, n02⟩, n12⟩ := h3
  have d01 : κ0 ≠ κ1 := fun e => by rw [e, Loc.eqb_self] at n01; cases n01
  have d02 : κ0 ≠ κ2 := fun e => by rw [e, Loc.eqb_self] at n02; cases n02
  have d12 : κ1 ≠ κ2 := fun e => by rw [e, Loc.eqb_self] at n12; cases n12
  have hfr := freshB_eq hf
  have one_ : ∀ {Ow : Loc → Nat → Option Nat} {m : Store} {w : World} (h : Rel P Γ M Ow n m a w) {κ : Loc} (hk : κ.isL = true) (hpn : Γ.pin κ = none) (hr : refsM κ m = false) {t : TypeId} {v : Value} (ho : v.oneCell' = true),
      Rel P Γ M (fun l i => if l = κ then (if i = 0 then some w.heap.size else none) else Ow l i) n ((κ, .blk t [.tr (.sc v)]) :: m) a (w.alloc (.cells #[v] t)) := by
    intro Ow m w h κ hk hpn hr t v ho
    have hb := below_alloc w (.cells #[v] t)
    have h1 := h.ext (w' := w.alloc (.cells #[v] t)) (M' := M) hb (fun _ _ h => h) (fun _ _ h => .inl h) (fun b o hm => Nat.lt_of_lt_of_le (h.mlt b o hm) hb.size)
    refine h1.addblk (Loc.isL_blk hk) hpn hr (alloc_at w _) (fun l i e => absurd (h.lt l i _ e) (Nat.lt_irrefl _)) h.fr.size (fun o hm => absurd (h.mlt _ _ hm) (Nat.lt_irrefl _)) rfl ?_ ?_ rfl
    · intro i u hu
      cases i with
      | zero => simp at hu; subst hu; exact ho
      | succ i => simp at hu
    · intro i y u hy hu
      cases i with
      | zero => simp at hy hu; subst hy; subst hu; exact VRel.tr _ _ (.sc _ ho)
      | succ i => simp at hu
  have r0 := one_ h l0 (hpn _ (by simp)) (hfr _ (by simp)) (t := t0) o0
  have r1 := one_ r0 l1 (hpn _ (by simp)) (by simp only [refsM, AV.refs, refsL, Bool.false_or]; exact hfr _ (by simp)) (t := t1) o1
  have r2 := one_ r1 l2 (hpn _ (by simp)) (by simp only [refsM, AV.refs, refsL, Bool.false_or]; exact hfr _ (by simp)) (t := t2) o2
  refine ⟨M, _, r2.put hd (.fn gf _ _ rfl ?_)⟩
  intro i x v hx hv
  match i with
  | 0 =>
    simp only [List.getElem?_cons_zero, Option.some.injEq] at hx; subst hx
    simp at hv; subst hv
    exact .ptr κ1 0 _ (Loc.isL_blk l1) (by simp only [if_neg d12, if_true]; simp)
  | 1 =>
    simp at hx; subst hx
    simp at hv; subst hv
    exact .ptr κ0 0 _ (Loc.isL_blk l0) (by simp only [if_neg d01, if_neg d02, if_true])
  | 2 =>
    simp at hx; subst hx
    simp at hv; subst hv
    exact .ptr κ2 0 _ (Loc.isL_blk l2) (by simp only [if_true]; simp)
  | i + 3 => simp at hx
/-! slices.Grow of nil. -/
def GrowPost (e : TypeId) (es : Nat) (w : World) (r : Ending) (w' : World) : Prop :=
  (r = .returned (.slice none 0 0) ∧ w' = w) ∨ ∃ cap carr, r = .returned (.slice (some ⟨w.heap.size, 0, none⟩) 0 cap) ∧ Below w.heap.size w w' ∧ w'.heap[w.heap.size]? = some (.cells carr e (0, 0)) ∧ carr.size = cap * es ∧ ∀ (k : Nat) (u : Value), carr[k]? = some u → u.oneCell' = true
def evGrow (n : Nat) (ops : List Oper) (o : Oper) (m : Store) : Option (FuncId × Int × Nat) := match o.op, o.dst, gOk m ops o.guard with
  | .call ⟨.value (.func f), ⟨[.const (.slice none 0 0), x]⟩, _⟩, some d, true => match Nat.blt d n, opV m x with
    | true, some (.tr (.sc (.int .i64 j))) => some (f, j, d)
    | _, _ => none
  | _, _, _ => none
theorem Sq.growNil {ops l : List Oper} {o : Oper} {f : FuncId} {j : Int} {d e es by' : Nat} {kd : TK} {zs : List AV} {K : Store → Prop} (hT : TabOk P tab) (h : evGrow n ops o m = some (f, j, d)) (hcl : Callable P f) (he : tlk tab e = some ⟨es, by', kd, zs⟩)
    (hc : ∀ w, Calls P f #[.slice none 0 0, .int .i64 j] w (GrowPost e es w)) (k : Sq P G n ops l ((.s d, .own e []) :: m) K) : Sq P G n ops (o :: l) m K := by
  obtain ⟨dst, op, type, pos, after, guard⟩ := o
  unfold evGrow at h
  simp only at h
  split at h
  · rename_i f' x ats d' hgd
    split at h
    · rename_i j' hlt hx
      simp only [Option.some.injEq, Prod.mk.injEq] at h
      obtain ⟨rfl, rfl, rfl⟩ := h
      have hd : d' < n := Nat.lt_of_succ_le (Nat.le_of_ble_eq_true hlt)
      obtain ⟨fn, hfn, hname, hbody⟩ := hcl
      intro Γ hΓ a w hr Q hQ
      obtain ⟨M, Ow, hr⟩ := hr
      have hw := wanted_of hgd hr (o := ⟨some d', .call ⟨.value (.func f'), #[.const (.slice none 0 0), x], ats⟩, type, pos, after, guard⟩)
      obtain ⟨q, hq⟩ := opV_ok hx hr
      have ex := (sc_eval (P := P) (Γ := Γ) hq).1
      have hrun : (execOp a.eval (⟨some d', .call ⟨.value (.func f'), #[.const (.slice none 0 0), x], ats⟩, type, pos, after, guard⟩ : Oper)).run P w = .ok (.enter f' #[.slice none 0 0, .int .i64 j']) w := by
        have hname' : ¬ fn.name = "runtime.NumGoroutine" := by simpa using hname
        have hbody' : ¬ fn.body = none := fun e => by rw [e] at hbody; cases hbody
        have hfe : a.eval (.func f') = .func (.func f') #[] #[] := rfl
        have hce : a.eval (.const (.slice none 0 0)) = .slice none 0 0 := rfl
        simp [execOp, resolve, Deferred.ofValue, hfe, hce, ex, invoke, callFunc, hfn, hname', hbody']
      unfold wpListIn
      rw [if_pos hw]
      refine ⟨fun _ _ => trivial, ?_⟩
      rw [show (FW Γ.rd).round = Γ.rd from rfl, semAt_of Γ.rd hrun (fun d e => by cases e), Oper.uponIn_enter]
      refine ⟨fun h => Bool.noConfusion (show false = true from h), FW.calls ((hc w).mono ?_)⟩
      obtain ⟨ie, hie, hsz, _⟩ := hT.info he
      have hsz : ie.size = es := hsz
      rintro r w' (⟨rfl, rfl⟩ | ⟨cap, carr, rfl, hb, hn, hs, h1⟩)
      · exact k Γ hΓ _ _ ⟨M, _, hr.putown hd (o := none) ⟨ie, hie, by simp, .inl ⟨rfl, none, rfl⟩⟩ (fun b h => nomatch h)⟩ Q hQ
      · refine k Γ hΓ _ _ ?_ Q hQ
        have := putown_new (xs := []) hr hd hie hb hn (by rw [hs, hsz]) (by simp) (by simp) h1 (by simp)
        simpa using this
    · cases h
  · cases h
end
end Go.Lg

set_option linter.unusedVariables false
set_option linter.unusedSimpArgs false
namespace Go.Lg
open Go Go.RowKit

section
variable {P : Program} {G : Env} {n : Nat} {tab : Tab} {m : Store}
def evEqNil (tab : Tab) (n : Nat) (ops : List Oper) (o : Oper) (m : Store) : Option (List T × Nat) := match o.op, o.dst, gOk m ops o.guard with
  | .binOp .eql t x (.const (.slice none 0 0)) _, some d, true => match Nat.blt d n, tlk tab t, opV m x with
    | true, some ⟨_, _, .slice _, _⟩, some v => match lsOf v with
      | some xs => some (xs, d)
      | none => none
    | _, _, _ => none
  | _, _, _ => none
theorem Sq.eqNil {ops l : List Oper} {o : Oper} {xs : List T} {d : Nat} {K : Store → Prop} (hT : TabOk P tab) (h : evEqNil tab n ops o m = some (xs, d)) (k : ∀ b : Bool, (b = true → xs = []) → Sq P G n ops l ((.s d, .tr (.sc (.bool b))) :: m) K) : Sq P G n ops (o :: l) m K := by
  obtain ⟨dst, op, type, pos, after, guard⟩ := o
  unfold evEqNil at h
  simp only at h
  split at h
  · rename_i t x uu d' hgd
    split at h
    · rename_i e _ v hlt ht hv
      split at h
      · rename_i xs' hls
        simp only [Option.some.injEq, Prod.mk.injEq] at h
        obtain ⟨rfl, rfl⟩ := h
        intro Γ hΓ a w hr Q hQ
        obtain ⟨M, Ow, hr0⟩ := hr
        obtain ⟨q1, hq1⟩ := opV_ok hv hr0
        have hv' := deg_vrel hq1
        rw [lsOf_eq hls] at hv'
        have hrep : Rep w M (.ls xs') (a.eval x) := by cases hv' with | tr _ _ h => exact h
        obtain ⟨ad, cap, e1, hcase⟩ := hrep.ls_inv
        have hb : ad.isNone = true → xs' = [] := fun h => by
          rcases hcase with h1 | ⟨b, off, es, h2, _⟩
          · exact h1
          · rw [h2] at h; cases h
        have hu := hT.slice ht rfl
        have hrun : (execOp a.eval (⟨some d', .binOp .eql t x (.const (.slice none 0 0)) uu, type, pos, after, guard⟩ : Oper)).run P w = .ok (.value (.bool ad.isNone)) w := by
          have hce : a.eval (.const (.slice none 0 0)) = .slice none 0 0 := rfl
          have he := run_equal_slice_nil (P := P) w t e ad xs'.length cap hu
          simp [execOp, hce, e1, eqGuard, binOp, he]
        have hd : d' < n := Nat.lt_of_succ_le (Nat.le_of_ble_eq_true hlt)
        have hw := wanted_of hgd hr0 (o := ⟨some d', .binOp .eql t x (.const (.slice none 0 0)) uu, type, pos, after, guard⟩)
        unfold wpListIn
        rw [if_pos hw]
        refine ⟨fun _ _ => trivial, ?_⟩
        rw [show (FW Γ.rd).round = Γ.rd from rfl, semAt_of Γ.rd hrun (fun d e => by cases e), Oper.uponIn_value]
        exact k ad.isNone hb Γ hΓ _ w ⟨M, Ow, hr0.put hd (.tr _ _ (.sc _ rfl))⟩ Q hQ
      · cases h
    · cases h
  · cases h
end
end Go.Lg

set_option linter.unusedVariables false
set_option linter.unusedSimpArgs false
namespace Go.Lg
open Go Go.RowKit
section
variable {P : Program} {G : Env} {n : Nat} {tab : Tab} {m : Store}
def evStrOf (tab : Tab) (n : Nat) (ops : List Oper) (o : Oper) (m : Store) : Option (List T × Nat) := match o.op, o.dst, gOk m ops o.guard with
  | .convert src dst x, some d, true => match Nat.blt d n, tlk tab src, tlk tab dst with
    | true, some ⟨_, _, .slice e, _⟩, some ⟨_, _, .str, _⟩ => match tlk tab e, opV m x with
      | some ⟨_, _, .int .u8, _⟩, some v => match lsOf v with
        | some xs => some (xs, d)
        | none => none
      | _, _ => none
    | _, _, _ => none
  | _, _, _ => none
theorem Sq.strOf {ops l : List Oper} {o : Oper} {xs : List T} {d : Nat} {K : Store → Prop} (bs : List UInt8) (hT : TabOk P tab) (h : evStrOf tab n ops o m = some (xs, d)) (hx : xs = bs.map byteT) (h0 : bs ≠ [])
    (k : Sq P G n ops l ((.s d, .tr (.sc (.string ⟨bs.toArray⟩))) :: m) K) : Sq P G n ops (o :: l) m K := by
  obtain ⟨dst, op, type, pos, after, guard⟩ := o
  unfold evStrOf at h
  simp only at h
  split at h
  · rename_i src dst' x d' hgd
    split at h
    · rename_i e z0 s2 b2 z2 hlt hsrc hdst
      split at h
      · rename_i v' he hv
        split at h
        · rename_i xs' hls
          simp only [Option.some.injEq, Prod.mk.injEq] at h
          obtain ⟨rfl, rfl⟩ := h
          subst hx
          refine Sq.do hgd (fun Γ M Ow a w hr => ?_) k
          obtain ⟨q1, hq1⟩ := opV_ok hv hr
          have hv' := deg_vrel hq1
          rw [lsOf_eq hls] at hv'
          have hrep : Rep w M (.ls (bs.map byteT)) (a.eval x) := by cases hv' with | tr _ _ h => exact h
          have hu1 := hT.slice hsrc rfl
          have hu2 := hT.str hdst rfl
          have hu3 := hT.int he rfl
          have key : (convert src dst' (a.eval x)).run P w = .ok (.string ⟨bs.toArray⟩) w := by
            generalize hax : a.eval x = vx at hrep
            generalize hL : bs.map byteT = L at hrep
            cases hrep with
            | nil => exact absurd (List.map_eq_nil_iff.1 hL) h0
            | ls _ b off es cap f h1 h2 h3 h4 h5 h6 =>
              subst hL
              have hes : es = 1 := by
                obtain ⟨c, t, rfl⟩ : ∃ c t, bs = c :: t := by cases bs with | nil => exact absurd rfl h0 | cons c t => exact ⟨c, t, rfl⟩
                exact (h2 (byteT c) (by simp)).symm
              subst hes
              have hlen : (bs.map byteT).length = bs.length := by simp
              have := run_convert_bytes_arg (P := P) w src e hu1 hu3 b off (bs.map byteT).length cap (bs.map fun c => (c.toNat : Int)) (by simp) (fun i hi => by
                rw [hlen] at hi
                have hc := h4 i 0 (by rw [hlen]; exact hi) (by omega)
                simp only [Nat.mul_one, Nat.add_zero] at hc
                rw [hc]
                have hr := h6 i 0 (byteT bs[i]) (byteT bs[i]) (by simp [hi]) rfl
                have : f i 0 = .int .u8 bs[i].toNat := by
                  generalize hfv : f i 0 = fv at hr
                  cases hr with | sc _ _ => rfl
                rw [this]
                simp [List.getD, hi]) dst' hu2
              rw [this]
              congr 2
              unfold strOfNums
              congr 2
              rw [List.map_map]
              have : ∀ c ∈ bs, ((fun n : Int => UInt8.ofNat n.toNat) ∘ fun c : UInt8 => (c.toNat : Int)) c = c := fun c _ => by simp
              rw [List.map_congr_left this, List.map_id']
          refine ⟨_, w, ?_, M, Ow, hr.put (Nat.lt_of_succ_le (Nat.le_of_ble_eq_true hlt)) (.tr _ _ (.sc _ rfl))⟩
          simp [execOp, key]
        · cases h
      · cases h
    · cases h
  · cases h

def evIdxA (tab : Tab) (n : Nat) (ops : List Oper) (o : Oper) (m : Store) : Option (Loc × Nat × Nat × Nat × Int × Nat) := match o.op, o.dst, gOk m ops o.guard with
  | .indexAddr t x i, some d, true => match Nat.blt d n, tlk tab t with
    | true, some ⟨_, _, .array len e, _⟩ => match tlk tab e, opV m x, opV m i with
      | some ⟨es, _, _, _⟩, some (.ptr κ off), some (.tr (.sc (.int _ j))) => some (κ, off, len, es, j, d)
      | _, _, _ => none
    | _, _ => none
  | _, _, _ => none
theorem Sq.indexA {ops l : List Oper} {o : Oper} {κ : Loc} {off len es d : Nat} {j : Int} {K : Store → Prop} (hT : TabOk P tab) (h : evIdxA tab n ops o m = some (κ, off, len, es, j, d)) (h0 : 0 ≤ j) (hj : j < len)
    (k : Sq P G n ops l ((.s d, .ptr κ (off + j.toNat * es)) :: m) K) : Sq P G n ops (o :: l) m K := by
  obtain ⟨dst, op, type, pos, after, guard⟩ := o
  unfold evIdxA at h
  simp only at h
  split at h
  · rename_i t ox oi d' hgd
    split at h
    · rename_i len0 e _ hlt ht
      split at h
      · rename_i es' _ _ _ κ' off' ik j' he hv hi
        simp only [Option.some.injEq, Prod.mk.injEq] at h
        obtain ⟨rfl, rfl, rfl, rfl, rfl, rfl⟩ := h
        refine Sq.do hgd (fun Γ M Ow a w hr => ?_) k
        obtain ⟨q1, hq1⟩ := opV_ok hv hr
        obtain ⟨q2, hq2⟩ := opV_ok hi hr
        have e2 := (sc_eval (Γ := Γ) hq2).1
        obtain ⟨b, hk, hb, e1⟩ := opK_ptr (v := .unk) (Γ := Γ) (rs := []) hq1
        obtain ⟨ie, hie, hsz, _⟩ := hT.info he
        have hsz : ie.size = es' := hsz
        have hu := hT.array ht rfl
        have hin : 0 ≤ j' ∧ j' < (len0 : Int) := ⟨h0, hj⟩
        refine ⟨.pointer (some ⟨b, off' + j'.toNat * es', none⟩), w, ?_, M, Ow, hr.put (Nat.lt_of_succ_le (Nat.le_of_ble_eq_true hlt)) (.ptr κ' _ b hk hb)⟩
        simp [execOp, e1, e2, Instr.indexAt, asIntOf, run_underlying hu, hin, sizeOf, typeInfo, hie, hsz, add_lit, Instr.sureAddr]
      · cases h
    · cases h
  · cases h
/-! division -/
def evDiv (n : Nat) (ops : List Oper) (o : Oper) (m : Store) : Option (IntKind × Int × Int × Bool × Nat) := match o.op, o.dst, gOk m ops o.guard with
  | .binOp op _ x y _, some d, true => match Nat.blt d n, opV m x, opV m y with
    | true, some (.tr (.sc (.int k a))), some (.tr (.sc (.int k' b))) => match decide (k = k'), op with
      | true, .quo => some (k, a, b, true, d)
      | true, .rem => some (k, a, b, false, d)
      | _, _ => none
    | _, _, _ => none
  | _, _, _ => none
theorem Sq.div {ops l : List Oper} {o : Oper} {k : IntKind} {a b c : Int} {q : Bool} {d : Nat} {K : Store → Prop} (h : evDiv n ops o m = some (k, a, b, q, d)) (hb : b ≠ 0) (hc : (if q then k.wrap (a.tdiv b) else a.tmod b) = c)
    (k : Sq P G n ops l ((.s d, .tr (.sc (.int k c))) :: m) K) : Sq P G n ops (o :: l) m K := by
  subst hc
  obtain ⟨dst, op, type, pos, after, guard⟩ := o
  unfold evDiv at h
  simp only at h
  split at h
  · rename_i op' ty x y ty' d' hgd
    split at h
    · rename_i k1 a' k2 b' hlt hx hy
      split at h
      · rename_i hk
        obtain rfl := of_decide_eq_true hk
        simp only [Option.some.injEq, Prod.mk.injEq] at h
        obtain ⟨rfl, rfl, rfl, rfl, rfl⟩ := h
        refine Sq.do hgd (fun Γ M Ow a w hr => ?_) k
        obtain ⟨q1, hq1⟩ := opV_ok hx hr
        obtain ⟨q2, hq2⟩ := opV_ok hy hr
        refine ⟨_, w, ?_, M, Ow, hr.put (Nat.lt_of_succ_le (Nat.le_of_ble_eq_true hlt)) (.tr _ _ (.sc _ rfl))⟩
        simp [execOp, (sc_eval (Γ := Γ) hq1).1, (sc_eval (Γ := Γ) hq2).1, eqGuard, binOp, Op.intDiv, hb]
      · rename_i hk
        obtain rfl := of_decide_eq_true hk
        simp only [Option.some.injEq, Prod.mk.injEq] at h
        obtain ⟨rfl, rfl, rfl, rfl, rfl⟩ := h
        refine Sq.do hgd (fun Γ M Ow a w hr => ?_) k
        obtain ⟨q1, hq1⟩ := opV_ok hx hr
        obtain ⟨q2, hq2⟩ := opV_ok hy hr
        refine ⟨_, w, ?_, M, Ow, hr.put (Nat.lt_of_succ_le (Nat.le_of_ble_eq_true hlt)) (.tr _ _ (.sc _ rfl))⟩
        simp [execOp, (sc_eval (Γ := Γ) hq1).1, (sc_eval (Γ := Γ) hq2).1, eqGuard, binOp, Op.intDiv, hb]
      · cases h
    · cases h
  · cases h
end

theorem Rep.strs {w : World} {M : Nat → Nat → Prop} {v : Value} {xs : List ByteArray} (h : Rep w M (.ls (xs.map fun s => .sc (.string s))) v) (hlt : ∀ b k, M b k → b < w.heap.size) :
    (xs = [] ∧ ∃ a c, v = .slice a 0 c) ∨ ∃ b o c, v = .slice (some ⟨b, o, none⟩) xs.length c ∧ xs.length ≤ c ∧ b < w.heap.size ∧ ∀ j x, xs[j]? = some x → w.cell? ⟨b, o + j, none⟩ = some (.string x) := by
  generalize hL : (xs.map fun s => T.sc (.string s)) = L at h
  cases h with
  | nil a c => exact .inl ⟨List.map_eq_nil_iff.1 hL, a, c, rfl⟩
  | ls _ b off es cap f h1 h2 h3 h4 h5 h6 =>
    subst hL
    rw [List.length_map] at *
    by_cases h0 : xs = []
    · subst h0; exact .inl ⟨rfl, _, _, rfl⟩
    · have hes : es = 1 := by
        obtain ⟨c, t, rfl⟩ : ∃ c t, xs = c :: t := by cases xs with | nil => exact absurd rfl h0 | cons c t => exact ⟨c, t, rfl⟩
        exact (h2 (.sc (.string c)) (by simp)).symm
      subst hes
      have hpos : 0 < xs.length := List.length_pos_iff.2 h0
      refine .inr ⟨b, off, cap, rfl, h1, hlt b _ (h3 0 0 hpos (by omega)), fun j x hj => ?_⟩
      have hjl := (List.getElem?_eq_some_iff.1 hj).1
      have hc := h4 j 0 hjl (by omega)
      simp only [Nat.mul_one, Nat.add_zero] at hc
      rw [hc]
      have hr := h6 j 0 (.sc (.string x)) (.sc (.string x)) (by simp [hj]) rfl
      generalize hfv : f j 0 = fv at hr
      cases hr with | sc _ _ => rfl
end Go.Lg

set_option linter.unusedVariables false
set_option linter.unusedSimpArgs false
namespace Go.Lg.Tryz
open Go Go.Proofs Go.RowKit Go.Lib Go.Lg.Sem
abbrev ndT (n : Nd) : T := .ag [.sc (.int .i64 n.s), .ls (n.r.map cmpsT)]
abbrev rlsT (r : Rls) : T := .ag [.sc (.int .i64 r.v.a), .sc (.int .i64 r.v.b), .sc (.int .i64 r.v.c), .sc (.string r.v.p), .sc (.int .i64 r.level), .ls (r.needs.map ndT)]
abbrev svcT (s : Svc) : T := .ag [.sc (.string s.name), .ls (s.rels.map rlsT)]
abbrev ctlT (c : Ctl) : T := .ag [.ls (c.map svcT)]
theorem idxNd (g : Nat) (caps : List AV) (H : Store) {α : Type} (enc : α → T) (p : α → Bool) (hc : ExtOnly caps) (hH : ∀ κ v, lk H κ = some v → (∃ j, κ = .e j)) (hHr : ∀ κ ty cells, lk H κ = some (.blk ty cells) → ExtOnly cells) (xs : List α)
    (hx : ∀ x, x ∈ xs → El true 2 (enc x) ∧ Fn Tryz.prog Gw g (.tr (enc x) :: caps) H (· = .tr (.sc (.bool (p x))))) (hn : xs.length ≤ 1073741824) :
    Fn Tryz.prog Gw 89 [.tr (.ls (xs.map enc)), .fn g caps] H (fun r => ∃ i : Int, r = .tr (.sc (.int .i64 i)) ∧ (decide (i ≥ 0) = xs.any p)) := by
  refine Fn.of tab_ok Tryz.func89 rfl (by decide) (by simp [Tryz.f89]) rfl (fun κ v h => by obtain ⟨j, rfl⟩ := hH κ v h; rfl) Gw.below ?_
  repeat' (first | refine Tr.seq ?_ | refine Tr.region ?_ | refine Sq.ev tab_ok rfl rfl ?_ | refine Sq.nil ?_ | (refine Sq.guard rfl rfl (fun _ => ?_) (fun _ => ?_) <;> refine Sq.ev tab_ok rfl rfl ?_) | (refine Tr.cond rfl (fun _ => ?_) (fun _ => ?_) <;> try (rename_i h; cases h; done)) | refine Tr.block ?_ | refine Tr.skip ?_ | refine Tr.ret ⟨_, rfl, ?_⟩)
  refine Tr.loopS (fun i : Nat => [(.s 0, .tr (.ls (xs.map enc))), (.s 1, .fn g caps), (.s 7, .tr (.sc (.int .i64 ((xs.map enc).length : Int)))), (.s 8, .tr (.sc (.int .i64 (i : Int))))] ++ H) (fun i => xs.length - i) (fun i => i ≤ xs.length ∧ (xs.take i).any p = false)
    0 ⟨by omega, by simp⟩ (Sub.app ⟨rfl, rfl, rfl, rfl, trivial⟩ (fun κ v h => by obtain ⟨j, rfl⟩ := hH κ v h; exact h)) ?_
  rintro i ⟨hi, hp⟩
  repeat' (first | refine Tr.seq ?_ | refine Tr.region ?_ | refine Sq.ev tab_ok rfl rfl ?_ | refine Sq.nil ?_ | refine Tr.block ?_ | refine Tr.skip ?_)
  refine Tr.cond rfl (fun h => ?_) (fun h => ?_)
  · have hlt : i < xs.length := by simpa using h
    obtain ⟨hxe, hxf⟩ := hx _ (List.getElem_mem hlt)
    repeat' (first | refine Tr.seq ?_ | refine Tr.region ?_ | refine Sq.ev tab_ok rfl rfl ?_ | refine Sq.nil ?_ | refine Tr.block ?_ | refine Tr.skip ?_)
    refine Sq.index (x := enc xs[i]) tab_ok rfl (by omega) (by simp [hlt]) hxe.len ?_
    refine Sq.loadEl (x := enc xs[i]) tab_ok rfl hxe ?_
    refine Sq.callE (H := H) rfl (by
      intro x hx
      rcases List.mem_cons.1 hx with rfl | hx
      · intro κ h; cases h
      · exact hc x hx) (fun κ v h => by obtain ⟨j, rfl⟩ := hH κ v h; exact ⟨⟨j, rfl⟩, h⟩) hHr hxf ?_
    rintro _ rfl
    refine Sq.nil ?_
    refine Tr.cond rfl (fun hb => ?_) (fun hb => ?_)
    · repeat' (first | refine Tr.seq ?_ | refine Tr.region ?_ | refine Sq.ev tab_ok rfl rfl ?_ | refine Sq.nil ?_ | (refine Sq.guard rfl rfl (fun _ => ?_) (fun _ => ?_) <;> refine Sq.ev tab_ok rfl rfl ?_) | (refine Tr.cond rfl (fun _ => ?_) (fun _ => ?_) <;> try (rename_i h; cases h; done)) | refine Tr.block ?_ | refine Tr.skip ?_ | refine Tr.ret ⟨_, rfl, ?_⟩)
      refine ⟨_, rfl, ?_⟩
      have : xs.any p = true := List.any_eq_true.2 ⟨_, List.getElem_mem hlt, hb⟩
      rw [this]; simp
    · refine Tr.skip ?_
      refine Tr.region ?_
      refine Sq.ev tab_ok rfl rfl ?_
      refine Sq.re (wrapz (z := ((i + 1 : Nat) : Int)) (by omega) (by omega) (by omega)) ?_
      refine Sq.ev tab_ok rfl rfl ?_
      refine Sq.nil ?_
      refine ⟨i + 1, ⟨by omega, ?_⟩, by omega, Sub.app ⟨rfl, rfl, rfl, rfl, trivial⟩ (fun κ v h => by obtain ⟨j, rfl⟩ := hH κ v h; exact h)⟩
      rw [List.take_succ_eq_append_getElem hlt, List.any_append, hp]; simp [hb]
  · have hge : ¬ i < xs.length := by simpa using h
    refine Tr.exit ?_
    repeat' (first | refine Tr.seq ?_ | refine Tr.region ?_ | refine Sq.ev tab_ok rfl rfl ?_ | refine Sq.nil ?_ | (refine Sq.guard rfl rfl (fun _ => ?_) (fun _ => ?_) <;> refine Sq.ev tab_ok rfl rfl ?_) | (refine Tr.cond rfl (fun _ => ?_) (fun _ => ?_) <;> try (rename_i h; cases h; done)) | refine Tr.block ?_ | refine Tr.skip ?_ | refine Tr.ret ⟨_, rfl, ?_⟩)
    refine ⟨_, rfl, ?_⟩
    rw [List.take_of_length_le (by omega)] at hp
    rw [hp]; rfl
theorem containsNd (g : Nat) (caps : List AV) (H : Store) {α : Type} (enc : α → T) (p : α → Bool) (hc : ExtOnly caps) (hH : ∀ κ v, lk H κ = some v → (∃ j, κ = .e j)) (hHr : ∀ κ ty cells, lk H κ = some (.blk ty cells) → ExtOnly cells) (xs : List α)
    (hx : ∀ x, x ∈ xs → El true 2 (enc x) ∧ Fn Tryz.prog Gw g (.tr (enc x) :: caps) H (· = .tr (.sc (.bool (p x))))) (hn : xs.length ≤ 1073741824) :
    Fn Tryz.prog Gw 67 [.tr (.ls (xs.map enc)), .fn g caps] H (· = .tr (.sc (.bool (xs.any p)))) := by
  refine Fn.of tab_ok Tryz.func67 rfl (by decide) (by simp [Tryz.f67]) rfl (fun κ v h => by obtain ⟨j, rfl⟩ := hH κ v h; rfl) Gw.below ?_
  repeat' (first | refine Tr.seq ?_ | refine Tr.region ?_ | refine Sq.ev tab_ok rfl rfl ?_ | refine Sq.nil ?_ | (refine Sq.guard rfl rfl (fun _ => ?_) (fun _ => ?_) <;> refine Sq.ev tab_ok rfl rfl ?_) | (refine Tr.cond rfl (fun _ => ?_) (fun _ => ?_) <;> try (rename_i h; cases h; done)) | refine Tr.block ?_ | refine Tr.skip ?_ | refine Tr.ret ⟨_, rfl, ?_⟩)
  refine Sq.callE (H := H) rfl (by
      intro x hx
      rcases List.mem_cons.1 hx with rfl | hx
      · intro κ h; cases h
      · rcases List.mem_cons.1 hx with rfl | hx
        · intro κ h; cases h with | fn _ _ x hx h => exact hc x hx κ h
        · cases hx) (fun κ v h => by obtain ⟨j, rfl⟩ := hH κ v h; exact ⟨⟨j, rfl⟩, h⟩) hHr (idxNd g caps H enc p hc hH hHr xs hx hn) ?_
  rintro _ ⟨i, rfl, hi⟩
  repeat' (first | refine Tr.seq ?_ | refine Tr.region ?_ | refine Sq.ev tab_ok rfl rfl ?_ | refine Sq.nil ?_ | (refine Sq.guard rfl rfl (fun _ => ?_) (fun _ => ?_) <;> refine Sq.ev tab_ok rfl rfl ?_) | (refine Tr.cond rfl (fun _ => ?_) (fun _ => ?_) <;> try (rename_i h; cases h; done)) | refine Tr.block ?_ | refine Tr.skip ?_ | refine Tr.ret ⟨_, rfl, ?_⟩)
  rw [hi]
theorem idxRls (g : Nat) (caps : List AV) (H : Store) {α : Type} (enc : α → T) (p : α → Bool) (hc : ExtOnly caps) (hH : ∀ κ v, lk H κ = some v → (∃ j, κ = .e j)) (hHr : ∀ κ ty cells, lk H κ = some (.blk ty cells) → ExtOnly cells) (xs : List α)
    (hx : ∀ x, x ∈ xs → El true 6 (enc x) ∧ Fn Tryz.prog Gw g (.tr (enc x) :: caps) H (· = .tr (.sc (.bool (p x))))) (hn : xs.length ≤ 1073741824) :
    Fn Tryz.prog Gw 88 [.tr (.ls (xs.map enc)), .fn g caps] H (fun r => ∃ i : Int, r = .tr (.sc (.int .i64 i)) ∧ (decide (i ≥ 0) = xs.any p)) := by
  refine Fn.of tab_ok Tryz.func88 rfl (by decide) (by simp [Tryz.f88]) rfl (fun κ v h => by obtain ⟨j, rfl⟩ := hH κ v h; rfl) Gw.below ?_
  repeat' (first | refine Tr.seq ?_ | refine Tr.region ?_ | refine Sq.ev tab_ok rfl rfl ?_ | refine Sq.nil ?_ | (refine Sq.guard rfl rfl (fun _ => ?_) (fun _ => ?_) <;> refine Sq.ev tab_ok rfl rfl ?_) | (refine Tr.cond rfl (fun _ => ?_) (fun _ => ?_) <;> try (rename_i h; cases h; done)) | refine Tr.block ?_ | refine Tr.skip ?_ | refine Tr.ret ⟨_, rfl, ?_⟩)
  refine Tr.loopS (fun i : Nat => [(.s 0, .tr (.ls (xs.map enc))), (.s 1, .fn g caps), (.s 7, .tr (.sc (.int .i64 ((xs.map enc).length : Int)))), (.s 8, .tr (.sc (.int .i64 (i : Int))))] ++ H) (fun i => xs.length - i) (fun i => i ≤ xs.length ∧ (xs.take i).any p = false)
    0 ⟨by omega, by simp⟩ (Sub.app ⟨rfl, rfl, rfl, rfl, trivial⟩ (fun κ v h => by obtain ⟨j, rfl⟩ := hH κ v h; exact h)) ?_
  rintro i ⟨hi, hp⟩
  repeat' (first | refine Tr.seq ?_ | refine Tr.region ?_ | refine Sq.ev tab_ok rfl rfl ?_ | refine Sq.nil ?_ | refine Tr.block ?_ | refine Tr.skip ?_)
  refine Tr.cond rfl (fun h => ?_) (fun h => ?_)
  · have hlt : i < xs.length := by simpa using h
    obtain ⟨hxe, hxf⟩ := hx _ (List.getElem_mem hlt)
    repeat' (first | refine Tr.seq ?_ | refine Tr.region ?_ | refine Sq.ev tab_ok rfl rfl ?_ | refine Sq.nil ?_ | refine Tr.block ?_ | refine Tr.skip ?_)
    refine Sq.index (x := enc xs[i]) tab_ok rfl (by omega) (by simp [hlt]) hxe.len ?_
    refine Sq.loadEl (x := enc xs[i]) tab_ok rfl hxe ?_
    refine Sq.callE (H := H) rfl (by
      intro x hx
      rcases List.mem_cons.1 hx with rfl | hx
      · intro κ h; cases h
      · exact hc x hx) (fun κ v h => by obtain ⟨j, rfl⟩ := hH κ v h; exact ⟨⟨j, rfl⟩, h⟩) hHr hxf ?_
    rintro _ rfl
    refine Sq.nil ?_
    refine Tr.cond rfl (fun hb => ?_) (fun hb => ?_)
    · repeat' (first | refine Tr.seq ?_ | refine Tr.region ?_ | refine Sq.ev tab_ok rfl rfl ?_ | refine Sq.nil ?_ | (refine Sq.guard rfl rfl (fun _ => ?_) (fun _ => ?_) <;> refine Sq.ev tab_ok rfl rfl ?_) | (refine Tr.cond rfl (fun _ => ?_) (fun _ => ?_) <;> try (rename_i h; cases h; done)) | refine Tr.block ?_ | refine Tr.skip ?_ | refine Tr.ret ⟨_, rfl, ?_⟩)
      refine ⟨_, rfl, ?_⟩
      have : xs.any p = true := List.any_eq_true.2 ⟨_, List.getElem_mem hlt, hb⟩
      rw [this]; simp
    · refine Tr.skip ?_
      refine Tr.region ?_
      refine Sq.ev tab_ok rfl rfl ?_
      refine Sq.re (wrapz (z := ((i + 1 : Nat) : Int)) (by omega) (by omega) (by omega)) ?_
      refine Sq.ev tab_ok rfl rfl ?_
      refine Sq.nil ?_
      refine ⟨i + 1, ⟨by omega, ?_⟩, by omega, Sub.app ⟨rfl, rfl, rfl, rfl, trivial⟩ (fun κ v h => by obtain ⟨j, rfl⟩ := hH κ v h; exact h)⟩
      rw [List.take_succ_eq_append_getElem hlt, List.any_append, hp]; simp [hb]
  · have hge : ¬ i < xs.length := by simpa using h
    refine Tr.exit ?_
    repeat' (first | refine Tr.seq ?_ | refine Tr.region ?_ | refine Sq.ev tab_ok rfl rfl ?_ | refine Sq.nil ?_ | (refine Sq.guard rfl rfl (fun _ => ?_) (fun _ => ?_) <;> refine Sq.ev tab_ok rfl rfl ?_) | (refine Tr.cond rfl (fun _ => ?_) (fun _ => ?_) <;> try (rename_i h; cases h; done)) | refine Tr.block ?_ | refine Tr.skip ?_ | refine Tr.ret ⟨_, rfl, ?_⟩)
    refine ⟨_, rfl, ?_⟩
    rw [List.take_of_length_le (by omega)] at hp
    rw [hp]; rfl
theorem containsRls (g : Nat) (caps : List AV) (H : Store) {α : Type} (enc : α → T) (p : α → Bool) (hc : ExtOnly caps) (hH : ∀ κ v, lk H κ = some v → (∃ j, κ = .e j)) (hHr : ∀ κ ty cells, lk H κ = some (.blk ty cells) → ExtOnly cells) (xs : List α)
    (hx : ∀ x, x ∈ xs → El true 6 (enc x) ∧ Fn Tryz.prog Gw g (.tr (enc x) :: caps) H (· = .tr (.sc (.bool (p x))))) (hn : xs.length ≤ 1073741824) :
    Fn Tryz.prog Gw 65 [.tr (.ls (xs.map enc)), .fn g caps] H (· = .tr (.sc (.bool (xs.any p)))) := by
  refine Fn.of tab_ok Tryz.func65 rfl (by decide) (by simp [Tryz.f65]) rfl (fun κ v h => by obtain ⟨j, rfl⟩ := hH κ v h; rfl) Gw.below ?_
  repeat' (first | refine Tr.seq ?_ | refine Tr.region ?_ | refine Sq.ev tab_ok rfl rfl ?_ | refine Sq.nil ?_ | (refine Sq.guard rfl rfl (fun _ => ?_) (fun _ => ?_) <;> refine Sq.ev tab_ok rfl rfl ?_) | (refine Tr.cond rfl (fun _ => ?_) (fun _ => ?_) <;> try (rename_i h; cases h; done)) | refine Tr.block ?_ | refine Tr.skip ?_ | refine Tr.ret ⟨_, rfl, ?_⟩)
  refine Sq.callE (H := H) rfl (by
      intro x hx
      rcases List.mem_cons.1 hx with rfl | hx
      · intro κ h; cases h
      · rcases List.mem_cons.1 hx with rfl | hx
        · intro κ h; cases h with | fn _ _ x hx h => exact hc x hx κ h
        · cases hx) (fun κ v h => by obtain ⟨j, rfl⟩ := hH κ v h; exact ⟨⟨j, rfl⟩, h⟩) hHr (idxRls g caps H enc p hc hH hHr xs hx hn) ?_
  rintro _ ⟨i, rfl, hi⟩
  repeat' (first | refine Tr.seq ?_ | refine Tr.region ?_ | refine Sq.ev tab_ok rfl rfl ?_ | refine Sq.nil ?_ | (refine Sq.guard rfl rfl (fun _ => ?_) (fun _ => ?_) <;> refine Sq.ev tab_ok rfl rfl ?_) | (refine Tr.cond rfl (fun _ => ?_) (fun _ => ?_) <;> try (rename_i h; cases h; done)) | refine Tr.block ?_ | refine Tr.skip ?_ | refine Tr.ret ⟨_, rfl, ?_⟩)
  rw [hi]
theorem idxSvc (g : Nat) (caps : List AV) (H : Store) {α : Type} (enc : α → T) (p : α → Bool) (hc : ExtOnly caps) (hH : ∀ κ v, lk H κ = some v → (∃ j, κ = .e j)) (hHr : ∀ κ ty cells, lk H κ = some (.blk ty cells) → ExtOnly cells) (xs : List α)
    (hx : ∀ x, x ∈ xs → El true 2 (enc x) ∧ Fn Tryz.prog Gw g (.tr (enc x) :: caps) H (· = .tr (.sc (.bool (p x))))) (hn : xs.length ≤ 1073741824) :
    Fn Tryz.prog Gw 76 [.tr (.ls (xs.map enc)), .fn g caps] H (fun r => ∃ i : Int, r = .tr (.sc (.int .i64 i)) ∧ (decide (i ≥ 0) = xs.any p)) := by
  refine Fn.of tab_ok Tryz.func76 rfl (by decide) (by simp [Tryz.f76]) rfl (fun κ v h => by obtain ⟨j, rfl⟩ := hH κ v h; rfl) Gw.below ?_
  repeat' (first | refine Tr.seq ?_ | refine Tr.region ?_ | refine Sq.ev tab_ok rfl rfl ?_ | refine Sq.nil ?_ | (refine Sq.guard rfl rfl (fun _ => ?_) (fun _ => ?_) <;> refine Sq.ev tab_ok rfl rfl ?_) | (refine Tr.cond rfl (fun _ => ?_) (fun _ => ?_) <;> try (rename_i h; cases h; done)) | refine Tr.block ?_ | refine Tr.skip ?_ | refine Tr.ret ⟨_, rfl, ?_⟩)
  refine Tr.loopS (fun i : Nat => [(.s 0, .tr (.ls (xs.map enc))), (.s 1, .fn g caps), (.s 7, .tr (.sc (.int .i64 ((xs.map enc).length : Int)))), (.s 8, .tr (.sc (.int .i64 (i : Int))))] ++ H) (fun i => xs.length - i) (fun i => i ≤ xs.length ∧ (xs.take i).any p = false)
    0 ⟨by omega, by simp⟩ (Sub.app ⟨rfl, rfl, rfl, rfl, trivial⟩ (fun κ v h => by obtain ⟨j, rfl⟩ := hH κ v h; exact h)) ?_
  rintro i ⟨hi, hp⟩
  repeat' (first | refine Tr.seq ?_ | refine Tr.region ?_ | refine Sq.ev tab_ok rfl rfl ?_ | refine Sq.nil ?_ | refine Tr.block ?_ | refine Tr.skip ?_)
  refine Tr.cond rfl (fun h => ?_) (fun h => ?_)
  · have hlt : i < xs.length := by simpa using h
    obtain ⟨hxe, hxf⟩ := hx _ (List.getElem_mem hlt)
    repeat' (first | refine Tr.seq ?_ | refine Tr.region ?_ | refine Sq.ev tab_ok rfl rfl ?_ | refine Sq.nil ?_ | refine Tr.block ?_ | refine Tr.skip ?_)
    refine Sq.index (x := enc xs[i]) tab_ok rfl (by omega) (by simp [hlt]) hxe.len ?_
    refine Sq.loadEl (x := enc xs[i]) tab_ok rfl hxe ?_
    refine Sq.callE (H := H) rfl (by
      intro x hx
      rcases List.mem_cons.1 hx with rfl | hx
      · intro κ h; cases h
      · exact hc x hx) (fun κ v h => by obtain ⟨j, rfl⟩ := hH κ v h; exact ⟨⟨j, rfl⟩, h⟩) hHr hxf ?_
    rintro _ rfl
    refine Sq.nil ?_
    refine Tr.cond rfl (fun hb => ?_) (fun hb => ?_)
    · repeat' (first | refine Tr.seq ?_ | refine Tr.region ?_ | refine Sq.ev tab_ok rfl rfl ?_ | refine Sq.nil ?_ | (refine Sq.guard rfl rfl (fun _ => ?_) (fun _ => ?_) <;> refine Sq.ev tab_ok rfl rfl ?_) | (refine Tr.cond rfl (fun _ => ?_) (fun _ => ?_) <;> try (rename_i h; cases h; done)) | refine Tr.block ?_ | refine Tr.skip ?_ | refine Tr.ret ⟨_, rfl, ?_⟩)
      refine ⟨_, rfl, ?_⟩
      have : xs.any p = true := List.any_eq_true.2 ⟨_, List.getElem_mem hlt, hb⟩
      rw [this]; simp
    · refine Tr.skip ?_
      refine Tr.region ?_
      refine Sq.ev tab_ok rfl rfl ?_
      refine Sq.re (wrapz (z := ((i + 1 : Nat) : Int)) (by omega) (by omega) (by omega)) ?_
      refine Sq.ev tab_ok rfl rfl ?_
      refine Sq.nil ?_
      refine ⟨i + 1, ⟨by omega, ?_⟩, by omega, Sub.app ⟨rfl, rfl, rfl, rfl, trivial⟩ (fun κ v h => by obtain ⟨j, rfl⟩ := hH κ v h; exact h)⟩
      rw [List.take_succ_eq_append_getElem hlt, List.any_append, hp]; simp [hb]
  · have hge : ¬ i < xs.length := by simpa using h
    refine Tr.exit ?_
    repeat' (first | refine Tr.seq ?_ | refine Tr.region ?_ | refine Sq.ev tab_ok rfl rfl ?_ | refine Sq.nil ?_ | (refine Sq.guard rfl rfl (fun _ => ?_) (fun _ => ?_) <;> refine Sq.ev tab_ok rfl rfl ?_) | (refine Tr.cond rfl (fun _ => ?_) (fun _ => ?_) <;> try (rename_i h; cases h; done)) | refine Tr.block ?_ | refine Tr.skip ?_ | refine Tr.ret ⟨_, rfl, ?_⟩)
    refine ⟨_, rfl, ?_⟩
    rw [List.take_of_length_le (by omega)] at hp
    rw [hp]; rfl
theorem containsSvc (g : Nat) (caps : List AV) (H : Store) {α : Type} (enc : α → T) (p : α → Bool) (hc : ExtOnly caps) (hH : ∀ κ v, lk H κ = some v → (∃ j, κ = .e j)) (hHr : ∀ κ ty cells, lk H κ = some (.blk ty cells) → ExtOnly cells) (xs : List α)
    (hx : ∀ x, x ∈ xs → El true 2 (enc x) ∧ Fn Tryz.prog Gw g (.tr (enc x) :: caps) H (· = .tr (.sc (.bool (p x))))) (hn : xs.length ≤ 1073741824) :
    Fn Tryz.prog Gw 55 [.tr (.ls (xs.map enc)), .fn g caps] H (· = .tr (.sc (.bool (xs.any p)))) := by
  refine Fn.of tab_ok Tryz.func55 rfl (by decide) (by simp [Tryz.f55]) rfl (fun κ v h => by obtain ⟨j, rfl⟩ := hH κ v h; rfl) Gw.below ?_
  repeat' (first | refine Tr.seq ?_ | refine Tr.region ?_ | refine Sq.ev tab_ok rfl rfl ?_ | refine Sq.nil ?_ | (refine Sq.guard rfl rfl (fun _ => ?_) (fun _ => ?_) <;> refine Sq.ev tab_ok rfl rfl ?_) | (refine Tr.cond rfl (fun _ => ?_) (fun _ => ?_) <;> try (rename_i h; cases h; done)) | refine Tr.block ?_ | refine Tr.skip ?_ | refine Tr.ret ⟨_, rfl, ?_⟩)
  refine Sq.callE (H := H) rfl (by
      intro x hx
      rcases List.mem_cons.1 hx with rfl | hx
      · intro κ h; cases h
      · rcases List.mem_cons.1 hx with rfl | hx
        · intro κ h; cases h with | fn _ _ x hx h => exact hc x hx κ h
        · cases hx) (fun κ v h => by obtain ⟨j, rfl⟩ := hH κ v h; exact ⟨⟨j, rfl⟩, h⟩) hHr (idxSvc g caps H enc p hc hH hHr xs hx hn) ?_
  rintro _ ⟨i, rfl, hi⟩
  repeat' (first | refine Tr.seq ?_ | refine Tr.region ?_ | refine Sq.ev tab_ok rfl rfl ?_ | refine Sq.nil ?_ | (refine Sq.guard rfl rfl (fun _ => ?_) (fun _ => ?_) <;> refine Sq.ev tab_ok rfl rfl ?_) | (refine Tr.cond rfl (fun _ => ?_) (fun _ => ?_) <;> try (rename_i h; cases h; done)) | refine Tr.block ?_ | refine Tr.skip ?_ | refine Tr.ret ⟨_, rfl, ?_⟩)
  rw [hi]
theorem nd_el (c : Nd) : El true 2 (ndT c) := .inl ⟨rfl, _, rfl, rfl⟩
theorem rls_el (c : Rls) : El true 6 (rlsT c) := .inl ⟨rfl, _, rfl, rfl⟩
theorem svc_el (c : Svc) : El true 2 (svcT c) := .inl ⟨rfl, _, rfl, rfl⟩
abbrev intH (j : Int) : Store := [(.e 0, .blk 3 [int j])]
theorem intH_e (v : Int) : ∀ κ u, lk (intH v) κ = some u → ∃ j, κ = .e j := fun κ u h => ⟨0, (lk1 h).1⟩
theorem intH_r (v : Int) : ∀ κ ty cells, lk (intH v) κ = some (.blk ty cells) → ExtOnly cells := fun κ ty cells h => by
  obtain ⟨_, h2⟩ := lk1 h
  injection h2 with h3 h4
  subst h4
  intro x hx κ hr
  simp only [List.mem_cons, List.not_mem_nil, or_false] at hx
  subst hx; cases hr
theorem ask2_ok (j : Int) (n : Nd) : Fn Tryz.prog Gw 68 [.tr (ndT n), .ptr (.e 0) 0] (intH j) (· = bool (n.s == j)) := by
  refine Fn.of tab_ok Tryz.func68 rfl (by decide) (by simp [Tryz.f68]) rfl (fun κ v h => (lk1 h).1 ▸ rfl) Gw.below ?_
  repeat' (first | refine Tr.seq ?_ | refine Tr.region ?_ | refine Sq.ev tab_ok rfl rfl ?_ | refine Sq.nil ?_ | (refine Sq.guard rfl rfl (fun _ => ?_) (fun _ => ?_) <;> refine Sq.ev tab_ok rfl rfl ?_) | (refine Tr.cond rfl (fun _ => ?_) (fun _ => ?_) <;> try (rename_i h; cases h; done)) | refine Tr.block ?_ | refine Tr.skip ?_ | refine Tr.ret ⟨_, rfl, ?_⟩)
  rfl
theorem ask1_ok (j : Int) (r : Rls) (hn : r.needs.length ≤ 1073741824) : Fn Tryz.prog Gw 66 [.tr (rlsT r), .ptr (.e 0) 0] (intH j) (· = bool (asksN r.needs j)) := by
  refine Fn.of tab_ok Tryz.func66 rfl (by decide) (by simp [Tryz.f66]) rfl (fun κ v h => (lk1 h).1 ▸ rfl) Gw.below ?_
  repeat' (first | refine Tr.seq ?_ | refine Tr.region ?_ | refine Sq.ev tab_ok rfl rfl ?_ | refine Sq.nil ?_ | (refine Sq.guard rfl rfl (fun _ => ?_) (fun _ => ?_) <;> refine Sq.ev tab_ok rfl rfl ?_) | (refine Tr.cond rfl (fun _ => ?_) (fun _ => ?_) <;> try (rename_i h; cases h; done)) | refine Tr.block ?_ | refine Tr.skip ?_ | refine Tr.ret ⟨_, rfl, ?_⟩)
  refine Sq.callE (H := intH j) rfl (by
      intro x hx
      rcases List.mem_cons.1 hx with rfl | hx
      · intro κ h; cases h
      · rcases List.mem_cons.1 hx with rfl | hx
        · intro κ h; cases h with | fn _ _ x hx h => exact ptr_ext x hx κ h
        · cases hx) (fun κ u h => ⟨intH_e j κ u h, by obtain ⟨rfl, rfl⟩ := lk1 h; rfl⟩) (intH_r j)
    (containsNd 68 [.ptr (.e 0) 0] (intH j) ndT (fun n => n.s == j) ptr_ext (intH_e j) (intH_r j) r.needs (fun n _ => ⟨nd_el n, ask2_ok j n⟩) hn) ?_
  rintro _ rfl
  repeat' (first | refine Tr.seq ?_ | refine Tr.region ?_ | refine Sq.ev tab_ok rfl rfl ?_ | refine Sq.nil ?_ | (refine Sq.guard rfl rfl (fun _ => ?_) (fun _ => ?_) <;> refine Sq.ev tab_ok rfl rfl ?_) | (refine Tr.cond rfl (fun _ => ?_) (fun _ => ?_) <;> try (rename_i h; cases h; done)) | refine Tr.block ?_ | refine Tr.skip ?_ | refine Tr.ret ⟨_, rfl, ?_⟩)
  rfl
theorem asks_ok (c : Ctl) (i : Nat) (j : Int) (s : Svc) (hs : c[i]? = some s) (hn : s.rels.length ≤ 1073741824) (hm : ∀ r, r ∈ s.rels → r.needs.length ≤ 1073741824) :
    Fn Tryz.prog Gw 36 [.tr (ctlT c), int i, int j] [] (· = bool (asks c i j)) := by
  have e : asks c i j = asksS s j := by unfold asks; rw [hs]
  rw [e]
  refine Fn.of tab_ok Tryz.func36 rfl (by decide) (by simp [Tryz.f36]) rfl (fun κ v h => by cases h) Gw.below ?_
  repeat' (first | refine Tr.seq ?_ | refine Tr.region ?_ | refine Sq.ev tab_ok rfl rfl ?_ | refine Sq.nil ?_ | (refine Sq.guard rfl rfl (fun _ => ?_) (fun _ => ?_) <;> refine Sq.ev tab_ok rfl rfl ?_) | (refine Tr.cond rfl (fun _ => ?_) (fun _ => ?_) <;> try (rename_i h; cases h; done)) | refine Tr.block ?_ | refine Tr.skip ?_ | refine Tr.ret ⟨_, rfl, ?_⟩)
  refine Sq.index (x := svcT s) tab_ok rfl (by omega) (by simp [hs]) rfl ?_
  repeat' (first | refine Tr.seq ?_ | refine Tr.region ?_ | refine Sq.ev tab_ok rfl rfl ?_ | refine Sq.nil ?_ | (refine Sq.guard rfl rfl (fun _ => ?_) (fun _ => ?_) <;> refine Sq.ev tab_ok rfl rfl ?_) | (refine Tr.cond rfl (fun _ => ?_) (fun _ => ?_) <;> try (rename_i h; cases h; done)) | refine Tr.block ?_ | refine Tr.skip ?_ | refine Tr.ret ⟨_, rfl, ?_⟩)
  refine Sq.callv rfl (containsRls 66 [.ptr (.e 0) 0] (intH j) rlsT (fun r => asksN r.needs j) ptr_ext (intH_e j) (intH_r j) s.rels (fun r hr => ⟨rls_el r, ask1_ok j r (hm r hr)⟩) hn) ?_
  repeat' (first | refine Tr.seq ?_ | refine Tr.region ?_ | refine Sq.ev tab_ok rfl rfl ?_ | refine Sq.nil ?_ | (refine Sq.guard rfl rfl (fun _ => ?_) (fun _ => ?_) <;> refine Sq.ev tab_ok rfl rfl ?_) | (refine Tr.cond rfl (fun _ => ?_) (fun _ => ?_) <;> try (rename_i h; cases h; done)) | refine Tr.block ?_ | refine Tr.skip ?_ | refine Tr.ret ⟨_, rfl, ?_⟩)
  rfl
theorem refAsks_ok (c : Ctl) (i : Nat) (j : Int) (s : Svc) (hs : c[i]? = some s) (hn : s.rels.length ≤ 1073741824) (hm : ∀ r, r ∈ s.rels → r.needs.length ≤ 1073741824) :
    Fn Tryz.prog Gw 37 [.tr (ctlT c), int i, int j] [] (· = bool (asks c i j)) := by
  have e : asks c i j = asksS s j := by unfold asks; rw [hs]
  rw [e]
  have hse : (c.map svcT)[i]? = some (svcT s) := by simp [hs]
  refine Fn.of tab_ok Tryz.func37 rfl (by decide) (by simp [Tryz.f37]) rfl (fun κ v h => by cases h) Gw.below ?_
  repeat' (first | refine Tr.seq ?_ | refine Tr.region ?_ | refine Sq.ev tab_ok rfl rfl ?_ | refine Sq.nil ?_ | (refine Sq.guard rfl rfl (fun _ => ?_) (fun _ => ?_) <;> refine Sq.ev tab_ok rfl rfl ?_) | (refine Tr.cond rfl (fun _ => ?_) (fun _ => ?_) <;> try (rename_i h; cases h; done)) | refine Tr.block ?_ | refine Tr.skip ?_ | refine Tr.ret ⟨_, rfl, ?_⟩)
  refine Tr.loopS (fun k : Nat => [(.s 1, int i), (.s 2, int j), (.s 3, .ptr (.l 3) 0), (.l 3, .blk 28 [.tr (.ls (c.map svcT))]), (.s 7, int k)]) (fun k => s.rels.length - k) (fun k => k ≤ s.rels.length ∧ (s.rels.take k).any (fun r => asksN r.needs j) = false)
    0 ⟨by omega, by simp⟩ (Sub.app (l := [_, _, _, _, _]) (H := []) ⟨rfl, rfl, rfl, rfl, rfl, trivial⟩ (fun κ v h => nomatch h)) ?_
  rintro k ⟨hk, hp⟩
  repeat' (first | refine Tr.seq ?_ | refine Tr.region ?_ | refine Sq.ev tab_ok rfl rfl ?_ | refine Sq.nil ?_ | (refine Sq.guard rfl rfl (fun _ => ?_) (fun _ => ?_) <;> refine Sq.ev tab_ok rfl rfl ?_) | (refine Tr.cond rfl (fun _ => ?_) (fun _ => ?_) <;> try (rename_i h; cases h; done)) | refine Tr.block ?_ | refine Tr.skip ?_ | refine Tr.ret ⟨_, rfl, ?_⟩)
  refine Sq.index (x := svcT s) tab_ok rfl (by omega) (by simpa using hse) rfl ?_
  refine Sq.ev tab_ok rfl rfl ?_
  refine Sq.ev tab_ok rfl rfl ?_
  refine Sq.ev tab_ok rfl rfl ?_
  refine Sq.ev tab_ok rfl rfl ?_
  refine Sq.nil ?_
  refine Tr.cond rfl (fun h => ?_) (fun h => ?_)
  · have hlt : k < s.rels.length := by
      have h : decide ((k : Int) < ((s.rels.map rlsT).length : Int)) = true := h
      simp only [List.length_map, decide_eq_true_eq] at h; omega
    obtain ⟨r, hr⟩ : ∃ r, s.rels[k] = r := ⟨_, rfl⟩
    have hre : (s.rels.map rlsT)[k]? = some (rlsT r) := by rw [List.getElem?_map, List.getElem?_eq_getElem hlt, hr]; rfl
    have hmr := hm r (hr ▸ List.getElem_mem hlt)
    repeat' (first | refine Tr.seq ?_ | refine Tr.region ?_ | refine Sq.ev tab_ok rfl rfl ?_ | refine Sq.nil ?_ | (refine Sq.guard rfl rfl (fun _ => ?_) (fun _ => ?_) <;> refine Sq.ev tab_ok rfl rfl ?_) | (refine Tr.cond rfl (fun _ => ?_) (fun _ => ?_) <;> try (rename_i h; cases h; done)) | refine Tr.block ?_ | refine Tr.skip ?_ | refine Tr.ret ⟨_, rfl, ?_⟩)
    refine Sq.index (x := svcT s) tab_ok rfl (by omega) (by simpa using hse) rfl ?_
    repeat' (first | refine Tr.seq ?_ | refine Tr.region ?_ | refine Sq.ev tab_ok rfl rfl ?_ | refine Sq.nil ?_ | (refine Sq.guard rfl rfl (fun _ => ?_) (fun _ => ?_) <;> refine Sq.ev tab_ok rfl rfl ?_) | (refine Tr.cond rfl (fun _ => ?_) (fun _ => ?_) <;> try (rename_i h; cases h; done)) | refine Tr.block ?_ | refine Tr.skip ?_ | refine Tr.ret ⟨_, rfl, ?_⟩)
    refine Sq.index (x := rlsT r) tab_ok rfl (by omega) (by simpa using hre) rfl ?_
    repeat' (first | refine Tr.seq ?_ | refine Tr.region ?_ | refine Sq.ev tab_ok rfl rfl ?_ | refine Sq.nil ?_ | (refine Sq.guard rfl rfl (fun _ => ?_) (fun _ => ?_) <;> refine Sq.ev tab_ok rfl rfl ?_) | (refine Tr.cond rfl (fun _ => ?_) (fun _ => ?_) <;> try (rename_i h; cases h; done)) | refine Tr.block ?_ | refine Tr.skip ?_ | refine Tr.ret ⟨_, rfl, ?_⟩)
    refine Tr.loopS (fun n : Nat => [(.s 1, int i), (.s 2, int j), (.s 3, .ptr (.l 3) 0), (.l 3, .blk 28 [.tr (.ls (c.map svcT))]), (.s 7, int k), (.s 8, .ptr (.l 8) 0), (.l 8, .blk 90 [int r.v.a, int r.v.b, int r.v.c, str r.v.p, int r.level, .tr (.ls (r.needs.map ndT))]), (.s 9, int n)])
      (fun n => r.needs.length - n) (fun n => n ≤ r.needs.length ∧ (r.needs.take n).any (fun x => x.s == j) = false)
      0 ⟨by omega, by simp⟩ (Sub.app (l := [_, _, _, _, _, _, _, _]) (H := []) ⟨rfl, rfl, rfl, rfl, rfl, rfl, rfl, rfl, trivial⟩ (fun κ v h => nomatch h)) ?_
    rintro n ⟨hn2, hp2⟩
    repeat' (first | refine Tr.seq ?_ | refine Tr.region ?_ | refine Sq.ev tab_ok rfl rfl ?_ | refine Sq.nil ?_ | (refine Sq.guard rfl rfl (fun _ => ?_) (fun _ => ?_) <;> refine Sq.ev tab_ok rfl rfl ?_) | (refine Tr.cond rfl (fun _ => ?_) (fun _ => ?_) <;> try (rename_i h; cases h; done)) | refine Tr.block ?_ | refine Tr.skip ?_ | refine Tr.ret ⟨_, rfl, ?_⟩)
    · rename_i h2
      have hlt2 : n < r.needs.length := by simp only [List.length_map, decide_eq_true_eq] at h2; omega
      obtain ⟨x, hx⟩ : ∃ x, r.needs[n] = x := ⟨_, rfl⟩
      have hxe : (r.needs.map ndT)[n]? = some (ndT x) := by rw [List.getElem?_map, List.getElem?_eq_getElem hlt2, hx]; rfl
      refine Sq.index (x := ndT x) tab_ok rfl (by omega) (by simpa using hxe) rfl ?_
      repeat' (first | refine Tr.seq ?_ | refine Tr.region ?_ | refine Sq.ev tab_ok rfl rfl ?_ | refine Sq.nil ?_ | (refine Sq.guard rfl rfl (fun _ => ?_) (fun _ => ?_) <;> refine Sq.ev tab_ok rfl rfl ?_) | (refine Tr.cond rfl (fun _ => ?_) (fun _ => ?_) <;> try (rename_i h; cases h; done)) | refine Tr.block ?_ | refine Tr.skip ?_ | refine Tr.ret ⟨_, rfl, ?_⟩)
      · rename_i h3
        have : asksS s j = true := by
          unfold asksS asksN
          refine List.any_eq_true.2 ⟨r, hr ▸ List.getElem_mem hlt, List.any_eq_true.2 ⟨x, hx ▸ List.getElem_mem hlt2, h3⟩⟩
        rw [this]
      · rename_i h3
        refine ⟨n + 1, ⟨by omega, ?_⟩, by omega, Sub.app (l := [_, _, _, _, _, _, _, _]) (H := []) ⟨rfl, rfl, rfl, rfl, rfl, rfl, rfl, congrArg some (wrapz (by omega) (by omega) (by omega)), trivial⟩ (fun κ v h => nomatch h)⟩
        rw [List.take_succ_eq_append_getElem hlt2, List.any_append, hp2, hx]
        simp [h3]
    · rename_i h2
      have hge : r.needs.length ≤ n := by simp only [List.length_map, decide_eq_false_iff_not] at h2; omega
      rw [List.take_of_length_le hge] at hp2
      refine Tr.exit ?_
      repeat' (first | refine Tr.seq ?_ | refine Tr.region ?_ | refine Sq.ev tab_ok rfl rfl ?_ | refine Sq.nil ?_ | (refine Sq.guard rfl rfl (fun _ => ?_) (fun _ => ?_) <;> refine Sq.ev tab_ok rfl rfl ?_) | (refine Tr.cond rfl (fun _ => ?_) (fun _ => ?_) <;> try (rename_i h; cases h; done)) | refine Tr.block ?_ | refine Tr.skip ?_ | refine Tr.ret ⟨_, rfl, ?_⟩)
      refine ⟨k + 1, ⟨by omega, ?_⟩, by omega, Sub.app (l := [_, _, _, _, _]) (H := []) ⟨rfl, rfl, rfl, rfl, congrArg some (wrapz (by omega) (by omega) (by omega)), trivial⟩ (fun κ v h => nomatch h)⟩
      rw [List.take_succ_eq_append_getElem hlt, List.any_append, hp, hr]
      simp only [List.any_cons, List.any_nil, Bool.or_false, Bool.false_or]
      exact hp2
  · have hge : s.rels.length ≤ k := by
      have h : decide ((k : Int) < ((s.rels.map rlsT).length : Int)) = false := h
      simp only [List.length_map, decide_eq_false_iff_not] at h; omega
    rw [List.take_of_length_le hge] at hp
    refine Tr.exit ?_
    repeat' (first | refine Tr.seq ?_ | refine Tr.region ?_ | refine Sq.ev tab_ok rfl rfl ?_ | refine Sq.nil ?_ | (refine Sq.guard rfl rfl (fun _ => ?_) (fun _ => ?_) <;> refine Sq.ev tab_ok rfl rfl ?_) | (refine Tr.cond rfl (fun _ => ?_) (fun _ => ?_) <;> try (rename_i h; cases h; done)) | refine Tr.block ?_ | refine Tr.skip ?_ | refine Tr.ret ⟨_, rfl, ?_⟩)
    show bool _ = bool _
    rw [show asksS s j = false from hp]
end Go.Lg.Tryz
