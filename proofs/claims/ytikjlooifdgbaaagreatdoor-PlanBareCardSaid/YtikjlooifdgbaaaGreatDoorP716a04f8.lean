/- Words and laws that the theorem leans on (part 6). -/
import Derived.Test.YtikjlooifdgbaaaGreatDoorPcd15fb3a
import Derived.Test.YtikjlooifdgbaaaGreatDoorP4b6f9f36
import Derived.Test.YtikjlooifdgbaaaGreatDoorP2f5bd03b
import Derived.Test.YtikjlooifdgbaaaGreatDoorP3602d6b1
import Derived.Test.YtikjlooifdgbaaaGreatDoorP358ab9f0
import Derived.Test.YtikjlooifdgbaaaGreatDoorRows
import Derived.Carry
import Derived.Lib.SmallJoins
import Derived.LaidMore
import Derived.PinnedBridge
import Derived.HandedShaped
import Derived.ProofKit
import Derived.OpenShut
import Derived.ShutString
import Derived.SizedLaws
import Derived.Stop.LaidErr
import Derived.Stop.Joined
import Derived.Shelf.Vars
import Derived.Lib.LaidTab
import Derived.MakeChecks
set_option linter.unusedVariables false
set_option linter.unusedSimpArgs false

set_option linter.unusedVariables false
set_option linter.unusedSimpArgs false
namespace Go.Lg.Tryz
open Go Go.Proofs Go.RowKit Go.Lib Go.Lg.Sem
theorem cloneRS {α : Type} (enc : α → T) (hes : ∀ a, (enc a).cells.length = 2) {xs : List α} (h1 : xs ≠ []) (hx : xs.length ≤ 1000000) : Fn Tryz.prog Gw 59 [.tr (.ls (xs.map enc))] [] (· = .raw 64 true (xs.map enc)) := by
  refine Fn.of tab_ok Tryz.func59 rfl (by decide) (by simp [Tryz.f59]) rfl (fun κ v h => by cases h) Gw.below ?_
  repeat' (first|refine zS ?_|refine zR ?_|refine zE tab_ok rfl rfl ?_|refine zN ?_|(refine zG rfl rfl (fun _ => ?_) fun _ => ?_)<;>refine zE tab_ok rfl rfl ?_|(refine zC rfl (fun _ => ?_) fun _ => ?_)<;>try (rename_i h; cases h; done)|refine zB ?_|refine zK ?_|refine zZ ⟨_, rfl, ?_⟩)
  refine Sq.eqNil tab_ok rfl (fun b hb => ?_)
  cases b
  · refine zN ?_
    refine zC rfl (fun h => by cases h) (fun _ => ?_)
    refine zK ?_
    refine zS ?_
    refine zR ?_
    refine Sq.lit0R tab_ok rfl ?_
    refine zE tab_ok rfl rfl ?_
    refine Sq.appendR tab_ok rfl (fun y hy => by obtain ⟨a, _, rfl⟩ := List.mem_map.1 hy; exact hes a) (by rw [List.length_map]; simp; omega) ?_
    repeat' (first|refine zS ?_|refine zR ?_|refine zE tab_ok rfl rfl ?_|refine zN ?_|(refine zG rfl rfl (fun _ => ?_) fun _ => ?_)<;>refine zE tab_ok rfl rfl ?_|(refine zC rfl (fun _ => ?_) fun _ => ?_)<;>try (rename_i h; cases h; done)|refine zB ?_|refine zK ?_|refine zZ ⟨_, rfl, ?_⟩)
    rfl
  · exfalso
    have := congrArg List.length (hb rfl)
    rw [List.length_map] at this
    exact h1 (List.eq_nil_of_length_eq_zero this)
theorem cloneRR {α : Type} (enc : α → T) (hes : ∀ a, (enc a).cells.length = 6) {xs : List α} (h1 : xs ≠ []) (hx : xs.length ≤ 1000000) : Fn Tryz.prog Gw 60 [.tr (.ls (xs.map enc))] [] (· = .raw 61 true (xs.map enc)) := by
  refine Fn.of tab_ok Tryz.func60 rfl (by decide) (by simp [Tryz.f60]) rfl (fun κ v h => by cases h) Gw.below ?_
  repeat' (first|refine zS ?_|refine zR ?_|refine zE tab_ok rfl rfl ?_|refine zN ?_|(refine zG rfl rfl (fun _ => ?_) fun _ => ?_)<;>refine zE tab_ok rfl rfl ?_|(refine zC rfl (fun _ => ?_) fun _ => ?_)<;>try (rename_i h; cases h; done)|refine zB ?_|refine zK ?_|refine zZ ⟨_, rfl, ?_⟩)
  refine Sq.eqNil tab_ok rfl (fun b hb => ?_)
  cases b
  · refine zN ?_
    refine zC rfl (fun h => by cases h) (fun _ => ?_)
    refine zK ?_
    refine zS ?_
    refine zR ?_
    refine Sq.lit0R tab_ok rfl ?_
    refine zE tab_ok rfl rfl ?_
    refine Sq.appendR tab_ok rfl (fun y hy => by obtain ⟨a, _, rfl⟩ := List.mem_map.1 hy; exact hes a) (by rw [List.length_map]; simp; omega) ?_
    repeat' (first|refine zS ?_|refine zR ?_|refine zE tab_ok rfl rfl ?_|refine zN ?_|(refine zG rfl rfl (fun _ => ?_) fun _ => ?_)<;>refine zE tab_ok rfl rfl ?_|(refine zC rfl (fun _ => ?_) fun _ => ?_)<;>try (rename_i h; cases h; done)|refine zB ?_|refine zK ?_|refine zZ ⟨_, rfl, ?_⟩)
    rfl
  · exfalso
    have := congrArg List.length (hb rfl)
    rw [List.length_map] at this
    exact h1 (List.eq_nil_of_length_eq_zero this)
theorem cloneRN {α : Type} (enc : α → T) (hes : ∀ a, (enc a).cells.length = 2) {xs : List α} (h1 : xs ≠ []) (hx : xs.length ≤ 1000000) : Fn Tryz.prog Gw 61 [.tr (.ls (xs.map enc))] [] (· = .raw 105 true (xs.map enc)) := by
  refine Fn.of tab_ok Tryz.func61 rfl (by decide) (by simp [Tryz.f61]) rfl (fun κ v h => by cases h) Gw.below ?_
  repeat' (first|refine zS ?_|refine zR ?_|refine zE tab_ok rfl rfl ?_|refine zN ?_|(refine zG rfl rfl (fun _ => ?_) fun _ => ?_)<;>refine zE tab_ok rfl rfl ?_|(refine zC rfl (fun _ => ?_) fun _ => ?_)<;>try (rename_i h; cases h; done)|refine zB ?_|refine zK ?_|refine zZ ⟨_, rfl, ?_⟩)
  refine Sq.eqNil tab_ok rfl (fun b hb => ?_)
  cases b
  · refine zN ?_
    refine zC rfl (fun h => by cases h) (fun _ => ?_)
    refine zK ?_
    refine zS ?_
    refine zR ?_
    refine Sq.lit0R tab_ok rfl ?_
    refine zE tab_ok rfl rfl ?_
    refine Sq.appendR tab_ok rfl (fun y hy => by obtain ⟨a, _, rfl⟩ := List.mem_map.1 hy; exact hes a) (by rw [List.length_map]; simp; omega) ?_
    repeat' (first|refine zS ?_|refine zR ?_|refine zE tab_ok rfl rfl ?_|refine zN ?_|(refine zG rfl rfl (fun _ => ?_) fun _ => ?_)<;>refine zE tab_ok rfl rfl ?_|(refine zC rfl (fun _ => ?_) fun _ => ?_)<;>try (rename_i h; cases h; done)|refine zB ?_|refine zK ?_|refine zZ ⟨_, rfl, ?_⟩)
    rfl
  · exfalso
    have := congrArg List.length (hb rfl)
    rw [List.length_map] at this
    exact h1 (List.eq_nil_of_length_eq_zero this)
theorem cloneRA {α : Type} (enc : α → T) (hes : ∀ a, (enc a).cells.length = 1) {xs : List α} (h1 : xs ≠ []) (hx : xs.length ≤ 1000000) : Fn Tryz.prog Gw 62 [.tr (.ls (xs.map enc))] [] (· = .raw 100 true (xs.map enc)) := by
  refine Fn.of tab_ok Tryz.func62 rfl (by decide) (by simp [Tryz.f62]) rfl (fun κ v h => by cases h) Gw.below ?_
  repeat' (first|refine zS ?_|refine zR ?_|refine zE tab_ok rfl rfl ?_|refine zN ?_|(refine zG rfl rfl (fun _ => ?_) fun _ => ?_)<;>refine zE tab_ok rfl rfl ?_|(refine zC rfl (fun _ => ?_) fun _ => ?_)<;>try (rename_i h; cases h; done)|refine zB ?_|refine zK ?_|refine zZ ⟨_, rfl, ?_⟩)
  refine Sq.eqNil tab_ok rfl (fun b hb => ?_)
  cases b
  · refine zN ?_
    refine zC rfl (fun h => by cases h) (fun _ => ?_)
    refine zK ?_
    refine zS ?_
    refine zR ?_
    refine Sq.lit0R tab_ok rfl ?_
    refine zE tab_ok rfl rfl ?_
    refine Sq.appendR tab_ok rfl (fun y hy => by obtain ⟨a, _, rfl⟩ := List.mem_map.1 hy; exact hes a) (by rw [List.length_map]; simp; omega) ?_
    repeat' (first|refine zS ?_|refine zR ?_|refine zE tab_ok rfl rfl ?_|refine zN ?_|(refine zG rfl rfl (fun _ => ?_) fun _ => ?_)<;>refine zE tab_ok rfl rfl ?_|(refine zC rfl (fun _ => ?_) fun _ => ?_)<;>try (rename_i h; cases h; done)|refine zB ?_|refine zK ?_|refine zZ ⟨_, rfl, ?_⟩)
    rfl
  · exfalso
    have := congrArg List.length (hb rfl)
    rw [List.length_map] at this
    exact h1 (List.eq_nil_of_length_eq_zero this)
theorem cloneNd {α : Type} (enc : α → T) (hes : ∀ a, (enc a).cells.length = 2) (xs : List α) (hn : xs.length ≤ 1073741824) : Fn Tryz.prog Gw 61 [.tr (.ls (xs.map enc))] [] (· = .own 105 (xs.map enc)) := by
  refine Fn.of tab_ok Tryz.func61 rfl (by decide) (by simp [Tryz.f61]) rfl (fun κ v h => by cases h) Gw.below ?_
  repeat' (first|refine zS ?_|refine zR ?_|refine zE tab_ok rfl rfl ?_|refine zN ?_|(refine zG rfl rfl (fun _ => ?_) fun _ => ?_)<;>refine zE tab_ok rfl rfl ?_|(refine zC rfl (fun _ => ?_) fun _ => ?_)<;>try (rename_i h; cases h; done)|refine zB ?_|refine zK ?_|refine zZ ⟨_, rfl, ?_⟩)
  refine Sq.eqNil tab_ok rfl (fun b hb => ?_)
  cases b
  · repeat' (first|refine zS ?_|refine zR ?_|refine zE tab_ok rfl rfl ?_|refine zN ?_|(refine zG rfl rfl (fun _ => ?_) fun _ => ?_)<;>refine zE tab_ok rfl rfl ?_|(refine zC rfl (fun _ => ?_) fun _ => ?_)<;>try (rename_i h; cases h; done)|refine zB ?_|refine zK ?_|refine zZ ⟨_, rfl, ?_⟩)
    refine Sq.append tab_ok rfl (fun y hy => by obtain ⟨a, _, rfl⟩ := List.mem_map.1 hy; exact hes a) (by simpa using hn) ?_
    repeat' (first|refine zS ?_|refine zR ?_|refine zE tab_ok rfl rfl ?_|refine zN ?_|(refine zG rfl rfl (fun _ => ?_) fun _ => ?_)<;>refine zE tab_ok rfl rfl ?_|(refine zC rfl (fun _ => ?_) fun _ => ?_)<;>try (rename_i h; cases h; done)|refine zB ?_|refine zK ?_|refine zZ ⟨_, rfl, ?_⟩)
    rfl
  · rw [hb rfl]
    repeat' (first|refine zS ?_|refine zR ?_|refine zE tab_ok rfl rfl ?_|refine zN ?_|(refine zG rfl rfl (fun _ => ?_) fun _ => ?_)<;>refine zE tab_ok rfl rfl ?_|(refine zC rfl (fun _ => ?_) fun _ => ?_)<;>try (rename_i h; cases h; done)|refine zB ?_|refine zK ?_|refine zZ ⟨_, rfl, ?_⟩)
    rfl
theorem cloneAn {α : Type} (enc : α → T) (hes : ∀ a, (enc a).cells.length = 1) (xs : List α) (hn : xs.length ≤ 1073741824) : Fn Tryz.prog Gw 62 [.tr (.ls (xs.map enc))] [] (· = .own 100 (xs.map enc)) := by
  refine Fn.of tab_ok Tryz.func62 rfl (by decide) (by simp [Tryz.f62]) rfl (fun κ v h => by cases h) Gw.below ?_
  repeat' (first|refine zS ?_|refine zR ?_|refine zE tab_ok rfl rfl ?_|refine zN ?_|(refine zG rfl rfl (fun _ => ?_) fun _ => ?_)<;>refine zE tab_ok rfl rfl ?_|(refine zC rfl (fun _ => ?_) fun _ => ?_)<;>try (rename_i h; cases h; done)|refine zB ?_|refine zK ?_|refine zZ ⟨_, rfl, ?_⟩)
  refine Sq.eqNil tab_ok rfl (fun b hb => ?_)
  cases b
  · repeat' (first|refine zS ?_|refine zR ?_|refine zE tab_ok rfl rfl ?_|refine zN ?_|(refine zG rfl rfl (fun _ => ?_) fun _ => ?_)<;>refine zE tab_ok rfl rfl ?_|(refine zC rfl (fun _ => ?_) fun _ => ?_)<;>try (rename_i h; cases h; done)|refine zB ?_|refine zK ?_|refine zZ ⟨_, rfl, ?_⟩)
    refine Sq.append tab_ok rfl (fun y hy => by obtain ⟨a, _, rfl⟩ := List.mem_map.1 hy; exact hes a) (by simpa using hn) ?_
    repeat' (first|refine zS ?_|refine zR ?_|refine zE tab_ok rfl rfl ?_|refine zN ?_|(refine zG rfl rfl (fun _ => ?_) fun _ => ?_)<;>refine zE tab_ok rfl rfl ?_|(refine zC rfl (fun _ => ?_) fun _ => ?_)<;>try (rename_i h; cases h; done)|refine zB ?_|refine zK ?_|refine zZ ⟨_, rfl, ?_⟩)
    rfl
  · rw [hb rfl]
    repeat' (first|refine zS ?_|refine zR ?_|refine zE tab_ok rfl rfl ?_|refine zN ?_|(refine zG rfl rfl (fun _ => ?_) fun _ => ?_)<;>refine zE tab_ok rfl rfl ?_|(refine zC rfl (fun _ => ?_) fun _ => ?_)<;>try (rename_i h; cases h; done)|refine zB ?_|refine zK ?_|refine zZ ⟨_, rfl, ?_⟩)
    rfl
theorem cloneCp {α : Type} (enc : α → T) (hes : ∀ a, (enc a).cells.length = 5) (xs : List α) (hn : xs.length ≤ 1073741824) : Fn Tryz.prog Gw 63 [.tr (.ls (xs.map enc))] [] (· = .own 99 (xs.map enc)) := by
  refine Fn.of tab_ok Tryz.func63 rfl (by decide) (by simp [Tryz.f63]) rfl (fun κ v h => by cases h) Gw.below ?_
  repeat' (first|refine zS ?_|refine zR ?_|refine zE tab_ok rfl rfl ?_|refine zN ?_|(refine zG rfl rfl (fun _ => ?_) fun _ => ?_)<;>refine zE tab_ok rfl rfl ?_|(refine zC rfl (fun _ => ?_) fun _ => ?_)<;>try (rename_i h; cases h; done)|refine zB ?_|refine zK ?_|refine zZ ⟨_, rfl, ?_⟩)
  refine Sq.eqNil tab_ok rfl (fun b hb => ?_)
  cases b
  · repeat' (first|refine zS ?_|refine zR ?_|refine zE tab_ok rfl rfl ?_|refine zN ?_|(refine zG rfl rfl (fun _ => ?_) fun _ => ?_)<;>refine zE tab_ok rfl rfl ?_|(refine zC rfl (fun _ => ?_) fun _ => ?_)<;>try (rename_i h; cases h; done)|refine zB ?_|refine zK ?_|refine zZ ⟨_, rfl, ?_⟩)
    refine Sq.append tab_ok rfl (fun y hy => by obtain ⟨a, _, rfl⟩ := List.mem_map.1 hy; exact hes a) (by simpa using hn) ?_
    repeat' (first|refine zS ?_|refine zR ?_|refine zE tab_ok rfl rfl ?_|refine zN ?_|(refine zG rfl rfl (fun _ => ?_) fun _ => ?_)<;>refine zE tab_ok rfl rfl ?_|(refine zC rfl (fun _ => ?_) fun _ => ?_)<;>try (rename_i h; cases h; done)|refine zB ?_|refine zK ?_|refine zZ ⟨_, rfl, ?_⟩)
    rfl
  · rw [hb rfl]
    repeat' (first|refine zS ?_|refine zR ?_|refine zE tab_ok rfl rfl ?_|refine zN ?_|(refine zG rfl rfl (fun _ => ?_) fun _ => ?_)<;>refine zE tab_ok rfl rfl ?_|(refine zC rfl (fun _ => ?_) fun _ => ?_)<;>try (rename_i h; cases h; done)|refine zB ?_|refine zK ?_|refine zZ ⟨_, rfl, ?_⟩)
    rfl
def fl (xs : List T) : List AV := (xs.flatMap T.cells).map AV.tr
theorem fl_len {es : Nat} (hpos : 0 < es) {xs : List T} (hx : ∀ x, x ∈ xs → x.cells.length = es) : (fl xs).length = xs.length * es := by
  unfold fl; rw [List.length_map, (flat_at hpos hx).1]
theorem fl_at {es : Nat} (hpos : 0 < es) {xs : List T} (hx : ∀ x, x ∈ xs → x.cells.length = es) {k j : Nat} {x y : T} (hk : xs[k]? = some x) (hj : x.cells[j]? = some y) : (fl xs)[k * es + j]? = some (.tr y) := by
  have hjl : j < es := by rw [← hx x (List.mem_of_getElem? hk)]; exact (List.getElem?_eq_some_iff.1 hj).1
  unfold fl
  rw [List.getElem?_map, (flat_at hpos hx).2, Nat.mul_comm k es, Nat.mul_add_div hpos, Nat.div_eq_of_lt hjl, Nat.add_zero, hk, Nat.mul_add_mod, Nat.mod_eq_of_lt hjl]
  show ((x.cells)[j]?).map AV.tr = _
  rw [hj]; rfl
theorem refsL_none {κ : Loc} : ∀ {l : List AV}, (∀ y, y ∈ l → y.refs κ = false) → refsL κ l = false
  | [], _ => rfl
  | y :: l, h => by simp only [refsL, Bool.or_eq_false_iff]; exact ⟨h y (List.mem_cons_self ..), refsL_none fun z hz => h z (List.mem_cons_of_mem _ hz)⟩
theorem fl_refs (κ : Loc) (xs : List T) (k : Nat) : refsL κ (fl xs ++ List.replicate k AV.unk) = false := refsL_flat xs k
theorem set_back {l : List AV} {i : Nat} {v y : AV} (h : l[i]? = some v) : (l.set i y).set i v = l := by
  rw [List.set_set]
  apply List.ext_getElem?
  intro j
  rw [List.getElem?_set]
  split
  · rename_i e; subst e; rw [if_pos (List.getElem?_eq_some_iff.1 h).1, h]
  · rfl
def svA (c : Ctl) (g : Nat → Svc → AV) : List AV := (List.range (2 * c.length)).map fun k => match c[k / 2]? with
  | some s => if k % 2 = 0 then .tr (.sc (.string s.name)) else g (k / 2) s
  | none => .unk
theorem svA_len (c : Ctl) (g : Nat → Svc → AV) : (svA c g).length = 2 * c.length := by unfold svA; simp
theorem svA_get {c : Ctl} {g : Nat → Svc → AV} {k : Nat} {s : Svc} (h : c[k / 2]? = some s) : (svA c g)[k]? = some (if k % 2 = 0 then .tr (.sc (.string s.name)) else g (k / 2) s) := by
  have := (List.getElem?_eq_some_iff.1 h).1
  unfold svA
  rw [List.getElem?_map, List.getElem?_range (by omega)]
  simp only [Option.map_some, h]
theorem svA_at1 {c : Ctl} {g : Nat → Svc → AV} {j : Nat} {s : Svc} (h : c[j]? = some s) : (svA c g)[j * 2 + 1]? = some (g j s) := by
  rw [svA_get (k := j * 2 + 1) (s := s) (by rw [show (j * 2 + 1) / 2 = j by omega]; exact h), if_neg (by omega), show (j * 2 + 1) / 2 = j by omega]
theorem svA_congr {c : Ctl} {g g' : Nat → Svc → AV} (h : ∀ k s, c[k]? = some s → g k s = g' k s) : svA c g = svA c g' := by
  unfold svA
  refine List.map_congr_left fun k _ => ?_
  cases e : c[k / 2]? with
  | none => rfl
  | some s => simp only; rw [h _ s e]
theorem svA_set {c : Ctl} {g : Nat → Svc → AV} {j : Nat} (hj : j < c.length) (v : AV) : (svA c g).set (j * 2 + 1) v = svA c (fun k s => if k = j then v else g k s) := by
  apply List.ext_getElem?
  intro k
  rw [List.getElem?_set, svA_len]
  by_cases hk : k < 2 * c.length
  · obtain ⟨s, hs⟩ : ∃ s, c[k / 2]? = some s := ⟨_, List.getElem?_eq_getElem (by omega)⟩
    rw [svA_get hs, svA_get hs]
    by_cases e : j * 2 + 1 = k
    · subst e
      rw [if_pos rfl, if_pos (by omega), if_neg (by omega), if_pos (by omega)]
    · rw [if_neg e]
      by_cases e2 : k % 2 = 0
      · rw [if_pos e2, if_pos e2]
      · rw [if_neg e2, if_neg e2, if_neg (by omega)]
  · rw [if_neg (by omega), List.getElem?_eq_none (by rw [svA_len]; omega), List.getElem?_eq_none (by rw [svA_len]; omega)]
theorem svA_refs {κ : Loc} {c : Ctl} {g : Nat → Svc → AV} (h : ∀ k s, c[k]? = some s → (g k s).refs κ = false) (m : Nat) : refsL κ (svA c g ++ List.replicate m AV.unk) = false := by
  refine refsL_none fun y hy => ?_
  rcases List.mem_append.1 hy with hy | hy
  · unfold svA at hy
    obtain ⟨k, hk, rfl⟩ := List.mem_map.1 hy
    cases e : c[k / 2]? with
    | none => rfl
    | some s =>
      simp only
      split
      · rfl
      · exact h _ s e
  · rw [List.eq_of_mem_replicate hy]; rfl
theorem svA_fl (c : Ctl) : fl (c.map svcT) = svA c (fun _ s => .tr (.ls (s.rels.map rlsT))) := by
  have hx : ∀ x, x ∈ c.map svcT → x.cells.length = 2 := by intro x hx; obtain ⟨a, _, rfl⟩ := List.mem_map.1 hx; rfl
  apply List.ext_getElem?
  intro k
  by_cases hk : k < 2 * c.length
  · obtain ⟨s, hs⟩ : ∃ s, c[k / 2]? = some s := ⟨_, List.getElem?_eq_getElem (by omega)⟩
    rw [svA_get hs]
    have hs' : (c.map svcT)[k / 2]? = some (svcT s) := by rw [List.getElem?_map, hs]; rfl
    by_cases e2 : k % 2 = 0
    · rw [if_pos e2]
      have := fl_at (es := 2) (by omega) hx hs' (j := 0) (y := .sc (.string s.name)) rfl
      rw [show k / 2 * 2 + 0 = k by omega] at this
      exact this
    · rw [if_neg e2]
      have := fl_at (es := 2) (by omega) hx hs' (j := 1) (y := .ls (s.rels.map rlsT)) rfl
      rw [show k / 2 * 2 + 1 = k by omega] at this
      exact this
  · rw [List.getElem?_eq_none (by rw [fl_len (es := 2) (by omega) hx, List.length_map]; omega), List.getElem?_eq_none (by rw [svA_len]; omega)]
end Go.Lg.Tryz

set_option linter.unusedVariables false
set_option linter.unusedSimpArgs false
namespace Go.Lg.Tryz
open Go Go.Proofs Go.RowKit Go.Lib Go.Lg.Sem
def gA (i : Nat) (k : Nat) (s : Svc) : AV := if k < i then .raw 61 true (s.rels.map rlsT) else .tr (.ls (s.rels.map rlsT))
theorem gA_refs (κ : Loc) (i k : Nat) (s : Svc) : (gA i k s).refs κ = false := by unfold gA; split <;> rfl
theorem gA_zero (c : Ctl) : svA c (gA 0) = svA c (fun _ s => .tr (.ls (s.rels.map rlsT))) := svA_congr fun k s _ => by unfold gA; rw [if_neg (by omega)]
theorem gA_full (c : Ctl) : svA c (gA c.length) = svA c (fun _ s => .raw 61 true (s.rels.map rlsT)) := svA_congr fun k s h => by unfold gA; rw [if_pos (List.getElem?_eq_some_iff.1 h).1]
theorem gA_succ {c : Ctl} {i : Nat} {s : Svc} (h : c[i]? = some s) : (svA c (gA i)).set (i * 2 + 1) (.raw 61 true (s.rels.map rlsT)) = svA c (gA (i + 1)) := by
  rw [svA_set (List.getElem?_eq_some_iff.1 h).1]
  refine svA_congr fun k s' h' => ?_
  by_cases e : k = i
  · subst e
    obtain rfl := Option.some.inj (h.symm.trans h')
    rw [if_pos rfl]; unfold gA; rw [if_pos (by omega)]
  · rw [if_neg e]; unfold gA
    by_cases e2 : k < i
    · rw [if_pos e2, if_pos (by omega)]
    · rw [if_neg e2, if_neg (by omega)]
theorem ag6 (l : List Rls) : ∀ x, x ∈ l.map rlsT → x.cells.length = 6 := by intro x hx; obtain ⟨a, _, rfl⟩ := List.mem_map.1 hx; rfl
theorem ag2 (l : List Nd) : ∀ x, x ∈ l.map ndT → x.cells.length = 2 := by intro x hx; obtain ⟨a, _, rfl⟩ := List.mem_map.1 hx; rfl
theorem ag1 (l : Rng) : ∀ x, x ∈ l.map cmpsT → x.cells.length = 1 := by intro x hx; obtain ⟨a, _, rfl⟩ := List.mem_map.1 hx; rfl
theorem fl_hc {es : Nat} (hpos : 0 < es) {xs : List T} (hx : ∀ x, x ∈ xs → x.cells.length = es) (U : List AV) : ∀ (i j : Nat) (x y : T), xs[i]? = some x → x.cells[j]? = some y → ∃ v, (fl xs ++ U)[i * es + j]? = some v ∧ v.deg = .tr y := by
  intro i j x y hi hj
  have h := fl_at hpos hx hi hj
  exact ⟨.tr y, by rw [List.getElem?_append_left (List.getElem?_eq_some_iff.1 h).1]; exact h, rfl⟩
theorem sl_refs {κ κ' : Loc} {a b : Nat} (h : κ ≠ κ') : (AV.sl κ' a b).refs κ = false := by
  simp only [AV.refs]; exact Loc.eqb_ne (fun e => h e.symm)
theorem set_same {l : List AV} {i : Nat} {v : AV} (h : l[i]? = some v) : l.set i v = l := by
  have := set_back (y := v) h
  rw [List.set_set] at this; exact this
theorem set_app {l U : List AV} {i : Nat} {v : AV} (h : i < l.length) : (l ++ U).set i v = l.set i v ++ U := List.set_append_left _ _ h
set_option maxRecDepth 8192 in
set_option maxHeartbeats 3200000 in
theorem catClone_ok (c : Ctl) (hs : smallC c = true) (h1 : 1 ≤ c.length) (hr1 : ∀ s, s ∈ c → 1 ≤ s.rels.length) :
    FnX Tryz.prog Gw 23 [.tr (ctlT c)] [] (fun r N => ∃ cap, c.length ≤ cap ∧ r = .agg [.sl (.l 2000) c.length cap] ∧ N = [(.l 2000, .blk 64 (svA c (fun _ s => .raw 61 true (s.rels.map rlsT)) ++ List.replicate ((cap - c.length) * 2) .unk))]) := by
  obtain ⟨hc16, hsm⟩ := smallC_of hs
  have hS := cloneRS svcT (fun a => rfl) (xs := c) (by intro h; subst h; simp at h1) (by omega)
  refine FnX.of [] tab_ok Tryz.func23 rfl (by decide) (by simp [Tryz.f23]) rfl (fun κ v h => nomatch h) ?_
  repeat' (first|refine zS ?_|refine zR ?_|refine zE tab_ok rfl rfl ?_|refine zN ?_|(refine zG rfl rfl (fun _ => ?_) fun _ => ?_)<;>refine zE tab_ok rfl rfl ?_|(refine zC rfl (fun _ => ?_) fun _ => ?_)<;>try (rename_i h; cases h; done)|refine zB ?_|refine zK ?_|refine zZ ⟨_, rfl, ?_⟩)
  refine Sq.callv rfl (hS) ?_
  refine Sq.thaw tab_ok 13 (.l 2000) (xs := c.map svcT) rfl (by intro h; rw [List.map_eq_nil_iff] at h; subst h; simp at h1) rfl (by decide) rfl rfl ?_
  intro cap hcap
  rw [List.length_map] at hcap ⊢
  rw [show ((c.map svcT).flatMap T.cells).map AV.tr = fl (c.map svcT) from rfl, svA_fl, ← gA_zero]
  generalize hpd : (cap - c.length) * 2 = pd
  have hf0 := fun κ => svA_refs (κ := κ) (c := c) (g := gA 0) (fun k s _ => gA_refs κ 0 k s) pd
  repeat' (first|refine zS ?_|refine zR ?_|refine zE tab_ok rfl rfl ?_|refine zN ?_|(refine zG rfl rfl (fun _ => ?_) fun _ => ?_)<;>refine zE tab_ok rfl rfl ?_|(refine zC rfl (fun _ => ?_) fun _ => ?_)<;>try (rename_i h; cases h; done)|refine zB ?_|refine zK ?_|refine zZ ⟨_, rfl, ?_⟩)
  refine zE tab_ok rfl (by simp [-List.map_map, freshB, pinB, refsM, AV.refs, hf0, refsL, Loc.eqb, putO, entryS]; try decide) ?_
  repeat' (first|refine zS ?_|refine zR ?_|refine zE tab_ok rfl rfl ?_|refine zN ?_|(refine zG rfl rfl (fun _ => ?_) fun _ => ?_)<;>refine zE tab_ok rfl rfl ?_|(refine zC rfl (fun _ => ?_) fun _ => ?_)<;>try (rename_i h; cases h; done)|refine zB ?_|refine zK ?_|refine zZ ⟨_, rfl, ?_⟩)
  refine Sq.lenS tab_ok rfl ?_
  repeat' (first|refine zS ?_|refine zR ?_|refine zE tab_ok rfl rfl ?_|refine zN ?_|(refine zG rfl rfl (fun _ => ?_) fun _ => ?_)<;>refine zE tab_ok rfl rfl ?_|(refine zC rfl (fun _ => ?_) fun _ => ?_)<;>try (rename_i h; cases h; done)|refine zB ?_|refine zK ?_|refine zZ ⟨_, rfl, ?_⟩)
  refine Tr.loopS (fun i : Nat => [(.s 2, .ptr (.l 2) 0), (.l 2, .blk 24 [.own 64 []]), (.s 3, .ptr (.l 3) 0), (.l 3, .blk 24 [.sl (.l 2000) c.length cap]), (.s 17, int c.length), (.l 2000, .blk 64 (svA c (gA i) ++ List.replicate pd .unk)), (.s 18, int i)]) (fun i => c.length - i) (fun i => i ≤ c.length)
    0 (by omega) (Sub.app (l := [_, _, _, _, _, _, _]) (H := []) ⟨rfl, rfl, rfl, rfl, rfl, rfl, rfl, trivial⟩ (fun κ v h => nomatch h)) ?_
  rintro i hi
  repeat' (first|refine zS ?_|refine zR ?_|refine zE tab_ok rfl rfl ?_|refine zN ?_|(refine zG rfl rfl (fun _ => ?_) fun _ => ?_)<;>refine zE tab_ok rfl rfl ?_|(refine zC rfl (fun _ => ?_) fun _ => ?_)<;>try (rename_i h; cases h; done)|refine zB ?_|refine zK ?_|refine zZ ⟨_, rfl, ?_⟩)
  · rename_i h2
    have hlt : i < c.length := by have := of_decide_eq_true h2; omega
    obtain ⟨s, hsi⟩ : ∃ s, c[i]? = some s := ⟨_, List.getElem?_eq_getElem hlt⟩
    obtain ⟨_, hrl, hrs⟩ := Svc.of_small (hsm s (List.mem_of_getElem? hsi))
    have hr1' := hr1 s (List.mem_of_getElem? hsi)
    have hne : s.rels ≠ [] := by intro h; rw [h] at hr1'; simp at hr1'
    have hR := cloneRR rlsT (fun a => rfl) (xs := s.rels) hne (by omega)
    have hcl : (svA c (gA i))[i * 2 + 1]? = some (.tr (.ls (s.rels.map rlsT))) := by rw [svA_at1 hsi]; unfold gA; rw [if_neg (by omega)]
    have hcl2 := hcl
    have hsl := svA_len c (gA i)
    have hnx := gA_succ hsi
    have hf := fun κ => svA_refs (κ := κ) (c := c) (g := gA i) (fun k s _ => gA_refs κ i k s) pd
    generalize svA c (gA i) = A at *
    have hcell : (A ++ List.replicate pd AV.unk)[i * 2 + 1]? = some (.tr (.ls (s.rels.map rlsT))) := by rw [List.getElem?_append_left (by omega)]; exact hcl
    refine Sq.indexS (j := ((i : Nat) : Int)) (len := c.length) tab_ok rfl (by omega) (by omega) ?_
    repeat' (first|refine zS ?_|refine zR ?_|refine zE tab_ok rfl rfl ?_|refine zN ?_|(refine zG rfl rfl (fun _ => ?_) fun _ => ?_)<;>refine zE tab_ok rfl rfl ?_|(refine zC rfl (fun _ => ?_) fun _ => ?_)<;>try (rename_i h; cases h; done)|refine zB ?_|refine zK ?_|refine zZ ⟨_, rfl, ?_⟩)
    refine Sq.nilC rfl ?_
    repeat' (first|refine zS ?_|refine zR ?_|refine zE tab_ok rfl rfl ?_|refine zN ?_|(refine zG rfl rfl (fun _ => ?_) fun _ => ?_)<;>refine zE tab_ok rfl rfl ?_|(refine zC rfl (fun _ => ?_) fun _ => ?_)<;>try (rename_i h; cases h; done)|refine zB ?_|refine zK ?_|refine zZ ⟨_, rfl, ?_⟩)
    refine Sq.loadS (v := .tr (.ls (s.rels.map rlsT))) tab_ok rfl (by rw [Int.toNat_natCast]; exact hcell) ?_
    refine Sq.callv rfl (hR) ?_
    refine Sq.thaw tab_ok 30 (.l 2001) (xs := s.rels.map rlsT) rfl (by intro h; rw [List.map_eq_nil_iff] at h; exact hne h) rfl (by decide) rfl (by simp [-List.map_map, freshB, pinB, refsM, AV.refs, AV.deg, putO, hf, refsL, Loc.eqb]; try decide) ?_
    intro capR hcapR
    rw [List.length_map] at hcapR ⊢
    rw [show ((s.rels.map rlsT).flatMap T.cells).map AV.tr = fl (s.rels.map rlsT) from rfl]
    have hRl := fl_len (es := 6) (by omega) (ag6 s.rels)
    rw [List.length_map] at hRl
    generalize hpr : (capR - s.rels.length) * 6 = pr
    refine Sq.nilC rfl ?_
    repeat' (first|refine zS ?_|refine zR ?_|refine zE tab_ok rfl rfl ?_|refine zN ?_|(refine zG rfl rfl (fun _ => ?_) fun _ => ?_)<;>refine zE tab_ok rfl rfl ?_|(refine zC rfl (fun _ => ?_) fun _ => ?_)<;>try (rename_i h; cases h; done)|refine zB ?_|refine zK ?_|refine zZ ⟨_, rfl, ?_⟩)
    refine Sq.storeS tab_ok rfl (by show ((i : Nat) : Int).toNat * 2 + 1 < _; rw [List.length_append]; omega) ?_
    have hW : ((A ++ List.replicate pd AV.unk).set (((i : Nat) : Int).toNat * 2 + 1) (AV.sl (.l 2001) s.rels.length capR))[((i : Nat) : Int).toNat * 2 + 1]? = some (.sl (.l 2001) s.rels.length capR) := by
      rw [List.getElem?_set_self (by rw [List.length_append]; omega)]
    have hfW : ∀ κ, κ ≠ .l 2001 → refsL κ ((A ++ List.replicate pd AV.unk).set (((i : Nat) : Int).toNat * 2 + 1) (AV.sl (.l 2001) s.rels.length capR)) = false := fun κ hk => refsL_set (sl_refs hk) (hf κ)
    have hWb : ∀ v, (((A ++ List.replicate pd AV.unk).set (((i : Nat) : Int).toNat * 2 + 1) (AV.sl (.l 2001) s.rels.length capR)).set (((i : Nat) : Int).toNat * 2 + 1) v) = A.set (i * 2 + 1) v ++ List.replicate pd AV.unk := fun v => by rw [List.set_set, Int.toNat_natCast, set_app (by omega)]
    rw [show (AV.sl (.l 2001) s.rels.length capR).deg = AV.sl (.l 2001) s.rels.length capR from rfl]
    generalize (A ++ List.replicate pd AV.unk).set (((i : Nat) : Int).toNat * 2 + 1) (AV.sl (.l 2001) s.rels.length capR) = W at *
    repeat' (first|refine zS ?_|refine zR ?_|refine zE tab_ok rfl rfl ?_|refine zN ?_|(refine zG rfl rfl (fun _ => ?_) fun _ => ?_)<;>refine zE tab_ok rfl rfl ?_|(refine zC rfl (fun _ => ?_) fun _ => ?_)<;>try (rename_i h; cases h; done)|refine zB ?_|refine zK ?_|refine zZ ⟨_, rfl, ?_⟩)
    refine Sq.nilC rfl ?_
    repeat' (first|refine zS ?_|refine zR ?_|refine zE tab_ok rfl rfl ?_|refine zN ?_|(refine zG rfl rfl (fun _ => ?_) fun _ => ?_)<;>refine zE tab_ok rfl rfl ?_|(refine zC rfl (fun _ => ?_) fun _ => ?_)<;>try (rename_i h; cases h; done)|refine zB ?_|refine zK ?_|refine zZ ⟨_, rfl, ?_⟩)
    refine Sq.loadS (v := .sl (.l 2001) s.rels.length capR) tab_ok rfl hW ?_
    refine Sq.lenS tab_ok rfl ?_
    repeat' (first|refine zS ?_|refine zR ?_|refine zE tab_ok rfl rfl ?_|refine zN ?_|(refine zG rfl rfl (fun _ => ?_) fun _ => ?_)<;>refine zE tab_ok rfl rfl ?_|(refine zC rfl (fun _ => ?_) fun _ => ?_)<;>try (rename_i h; cases h; done)|refine zB ?_|refine zK ?_|refine zZ ⟨_, rfl, ?_⟩)
    refine Tr.loopS (fun k : Nat => [(.s 2, .ptr (.l 2) 0), (.l 2, .blk 24 [.own 64 []]), (.s 3, .ptr (.l 3) 0), (.l 3, .blk 24 [.sl (.l 2000) c.length cap]), (.s 17, int c.length), (.s 18, int i), (.s 5, .ptr (.l 2000) (((i : Nat) : Int).toNat * 2)), (.l 2000, .blk 64 W), (.l 2001, .blk 61 (fl (s.rels.map rlsT) ++ List.replicate pr .unk)), (.s 37, int s.rels.length), (.s 38, int k)]) (fun k => s.rels.length - k) (fun k => k ≤ s.rels.length)
      0 (by omega) (Sub.app (l := [_, _, _, _, _, _, _, _, _, _, _]) (H := []) ⟨rfl, rfl, rfl, rfl, rfl, rfl, rfl, rfl, rfl, rfl, rfl, trivial⟩ (fun κ v h => nomatch h)) ?_
    rintro k hk
    repeat' (first|refine zS ?_|refine zR ?_|refine zE tab_ok rfl rfl ?_|refine zN ?_|(refine zG rfl rfl (fun _ => ?_) fun _ => ?_)<;>refine zE tab_ok rfl rfl ?_|(refine zC rfl (fun _ => ?_) fun _ => ?_)<;>try (rename_i h; cases h; done)|refine zB ?_|refine zK ?_|refine zZ ⟨_, rfl, ?_⟩)
    · rename_i h3
      have hlk : k < s.rels.length := by have := of_decide_eq_true h3; omega
      obtain ⟨r, hrk⟩ : ∃ r, s.rels[k]? = some r := ⟨_, List.getElem?_eq_getElem hlk⟩
      obtain ⟨hnl, _, hns⟩ := Rls.of_small (hrs r (List.mem_of_getElem? hrk))
      have hrk' : (s.rels.map rlsT)[k]? = some (rlsT r) := by rw [List.getElem?_map, hrk]; rfl
      have hcN := fl_at (es := 6) (by omega) (ag6 s.rels) hrk' (j := 5) (y := .ls (r.needs.map ndT)) rfl
      have hfR := fun κ => fl_refs κ (s.rels.map rlsT) pr
      generalize fl (s.rels.map rlsT) = RC at *
      have hcK : (RC ++ List.replicate pr AV.unk)[((k : Nat) : Int).toNat * 6 + 5]? = some (.tr (.ls (r.needs.map ndT))) := by
        rw [Int.toNat_natCast, List.getElem?_append_left (List.getElem?_eq_some_iff.1 hcN).1]; exact hcN
      have hltK := (List.getElem?_eq_some_iff.1 hcK).1
      generalize RC ++ List.replicate pr AV.unk = RC' at *
      refine Sq.nilC rfl ?_
      repeat' (first|refine zS ?_|refine zR ?_|refine zE tab_ok rfl rfl ?_|refine zN ?_|(refine zG rfl rfl (fun _ => ?_) fun _ => ?_)<;>refine zE tab_ok rfl rfl ?_|(refine zC rfl (fun _ => ?_) fun _ => ?_)<;>try (rename_i h; cases h; done)|refine zB ?_|refine zK ?_|refine zZ ⟨_, rfl, ?_⟩)
      refine Sq.loadS (v := .sl (.l 2001) s.rels.length capR) tab_ok rfl hW ?_
      refine zE tab_ok rfl rfl ?_
      refine Sq.indexS (j := ((k : Nat) : Int)) (len := s.rels.length) tab_ok rfl (by omega) (by omega) ?_
      repeat' (first|refine zS ?_|refine zR ?_|refine zE tab_ok rfl rfl ?_|refine zN ?_|(refine zG rfl rfl (fun _ => ?_) fun _ => ?_)<;>refine zE tab_ok rfl rfl ?_|(refine zC rfl (fun _ => ?_) fun _ => ?_)<;>try (rename_i h; cases h; done)|refine zB ?_|refine zK ?_|refine zZ ⟨_, rfl, ?_⟩)
      refine Sq.nilC rfl ?_
      repeat' (first|refine zS ?_|refine zR ?_|refine zE tab_ok rfl rfl ?_|refine zN ?_|(refine zG rfl rfl (fun _ => ?_) fun _ => ?_)<;>refine zE tab_ok rfl rfl ?_|(refine zC rfl (fun _ => ?_) fun _ => ?_)<;>try (rename_i h; cases h; done)|refine zB ?_|refine zK ?_|refine zZ ⟨_, rfl, ?_⟩)
      refine Sq.loadS (v := .tr (.ls (r.needs.map ndT))) tab_ok rfl hcK ?_
      by_cases hn0 : r.needs = []
      · have hN0 := cloneNd ndT (fun a => rfl) r.needs (by omega)
        refine Sq.callv rfl (hN0) ?_
        refine Sq.nilC rfl ?_
        repeat' (first|refine zS ?_|refine zR ?_|refine zE tab_ok rfl rfl ?_|refine zN ?_|(refine zG rfl rfl (fun _ => ?_) fun _ => ?_)<;>refine zE tab_ok rfl rfl ?_|(refine zC rfl (fun _ => ?_) fun _ => ?_)<;>try (rename_i h; cases h; done)|refine zB ?_|refine zK ?_|refine zZ ⟨_, rfl, ?_⟩)
        refine Sq.storeS tab_ok rfl hltK ?_
        repeat' (first|refine zS ?_|refine zR ?_|refine zE tab_ok rfl rfl ?_|refine zN ?_|(refine zG rfl rfl (fun _ => ?_) fun _ => ?_)<;>refine zE tab_ok rfl rfl ?_|(refine zC rfl (fun _ => ?_) fun _ => ?_)<;>try (rename_i h; cases h; done)|refine zB ?_|refine zK ?_|refine zZ ⟨_, rfl, ?_⟩)
        refine Sq.nilC rfl ?_
        repeat' (first|refine zS ?_|refine zR ?_|refine zE tab_ok rfl rfl ?_|refine zN ?_|(refine zG rfl rfl (fun _ => ?_) fun _ => ?_)<;>refine zE tab_ok rfl rfl ?_|(refine zC rfl (fun _ => ?_) fun _ => ?_)<;>try (rename_i h; cases h; done)|refine zB ?_|refine zK ?_|refine zZ ⟨_, rfl, ?_⟩)
        refine Sq.loadS (v := .tr (.ls (r.needs.map ndT))) tab_ok rfl (List.getElem?_set_self hltK) ?_
        repeat' (first|refine zS ?_|refine zR ?_|refine zE tab_ok rfl rfl ?_|refine zN ?_|(refine zG rfl rfl (fun _ => ?_) fun _ => ?_)<;>refine zE tab_ok rfl rfl ?_|(refine zC rfl (fun _ => ?_) fun _ => ?_)<;>try (rename_i h; cases h; done)|refine zB ?_|refine zK ?_|refine zZ ⟨_, rfl, ?_⟩)
        refine Tr.loopS (fun n : Nat => [(.s 2, .ptr (.l 2) 0), (.l 2, .blk 24 [.own 64 []]), (.s 3, .ptr (.l 3) 0), (.l 3, .blk 24 [.sl (.l 2000) c.length cap]), (.s 17, int c.length), (.s 18, int i), (.s 5, .ptr (.l 2000) (((i : Nat) : Int).toNat * 2)), (.l 2000, .blk 64 W), (.l 2001, .blk 61 RC'), (.s 37, int s.rels.length), (.s 38, int k), (.s 59, int (r.needs.map ndT).length), (.s 60, int 0)]) (fun n => 0) (fun _ => True)
          0 trivial (Sub.app (l := [_, _, _, _, _, _, _, _, _, _, _, _, _]) (H := []) ⟨rfl, rfl, rfl, rfl, rfl, rfl, rfl, rfl, congrArg (fun l => some (AV.blk 61 l)) (set_same hcK), rfl, rfl, rfl, rfl, trivial⟩ (fun κ v h => nomatch h)) ?_
        rintro n _
        repeat' (first|refine zS ?_|refine zR ?_|refine zE tab_ok rfl rfl ?_|refine zN ?_|(refine zG rfl rfl (fun _ => ?_) fun _ => ?_)<;>refine zE tab_ok rfl rfl ?_|(refine zC rfl (fun _ => ?_) fun _ => ?_)<;>try (rename_i h; cases h; done)|refine zB ?_|refine zK ?_|refine zZ ⟨_, rfl, ?_⟩)
        · exfalso
          rename_i h4
          rw [hn0] at h4
          cases h4
        · refine Tr.exit ?_
          repeat' (first|refine zS ?_|refine zR ?_|refine zE tab_ok rfl rfl ?_|refine zN ?_|(refine zG rfl rfl (fun _ => ?_) fun _ => ?_)<;>refine zE tab_ok rfl rfl ?_|(refine zC rfl (fun _ => ?_) fun _ => ?_)<;>try (rename_i h; cases h; done)|refine zB ?_|refine zK ?_|refine zZ ⟨_, rfl, ?_⟩)
          exact ⟨k + 1, by omega, by omega, Sub.app (l := [_, _, _, _, _, _, _, _, _, _, _]) (H := []) ⟨rfl, rfl, rfl, rfl, rfl, rfl, rfl, rfl, rfl, rfl, congrArg some (wrapz (by omega) (by omega) (by omega)), trivial⟩ (fun κ v h => nomatch h)⟩
      have hN1 := cloneRN ndT (fun a => rfl) (xs := r.needs) hn0 (by omega)
      refine Sq.callv rfl (hN1) ?_
      refine Sq.thaw tab_ok 52 (.l 2002) (xs := r.needs.map ndT) rfl (by intro h; rw [List.map_eq_nil_iff] at h; exact hn0 h) rfl (by decide) rfl (by simp [-List.map_map, freshB, pinB, refsM, AV.refs, AV.deg, putO, hfR, hfW, refsL, Loc.eqb]; try decide) ?_
      intro capN hcapN
      rw [List.length_map] at hcapN ⊢
      rw [show ((r.needs.map ndT).flatMap T.cells).map AV.tr = fl (r.needs.map ndT) from rfl]
      have hNl := fl_len (es := 2) (by omega) (ag2 r.needs)
      rw [List.length_map] at hNl
      generalize hpn : (capN - r.needs.length) * 2 = pn
      refine Sq.nilC rfl ?_
      repeat' (first|refine zS ?_|refine zR ?_|refine zE tab_ok rfl rfl ?_|refine zN ?_|(refine zG rfl rfl (fun _ => ?_) fun _ => ?_)<;>refine zE tab_ok rfl rfl ?_|(refine zC rfl (fun _ => ?_) fun _ => ?_)<;>try (rename_i h; cases h; done)|refine zB ?_|refine zK ?_|refine zZ ⟨_, rfl, ?_⟩)
      refine Sq.storeS tab_ok rfl hltK ?_
      have hV : (RC'.set (((k : Nat) : Int).toNat * 6 + 5) (AV.sl (.l 2002) r.needs.length capN))[((k : Nat) : Int).toNat * 6 + 5]? = some (.sl (.l 2002) r.needs.length capN) := List.getElem?_set_self hltK
      have hVb : (RC'.set (((k : Nat) : Int).toNat * 6 + 5) (AV.sl (.l 2002) r.needs.length capN)).set (((k : Nat) : Int).toNat * 6 + 5) (.tr (.ls (r.needs.map ndT))) = RC' := set_back hcK
      have hfV : ∀ κ, κ ≠ .l 2002 → refsL κ (RC'.set (((k : Nat) : Int).toNat * 6 + 5) (AV.sl (.l 2002) r.needs.length capN)) = false := fun κ hk => refsL_set (sl_refs hk) (hfR κ)
      rw [show (AV.sl (.l 2002) r.needs.length capN).deg = AV.sl (.l 2002) r.needs.length capN from rfl]
      generalize RC'.set (((k : Nat) : Int).toNat * 6 + 5) (AV.sl (.l 2002) r.needs.length capN) = V at *
      repeat' (first|refine zS ?_|refine zR ?_|refine zE tab_ok rfl rfl ?_|refine zN ?_|(refine zG rfl rfl (fun _ => ?_) fun _ => ?_)<;>refine zE tab_ok rfl rfl ?_|(refine zC rfl (fun _ => ?_) fun _ => ?_)<;>try (rename_i h; cases h; done)|refine zB ?_|refine zK ?_|refine zZ ⟨_, rfl, ?_⟩)
      refine Sq.nilC rfl ?_
      repeat' (first|refine zS ?_|refine zR ?_|refine zE tab_ok rfl rfl ?_|refine zN ?_|(refine zG rfl rfl (fun _ => ?_) fun _ => ?_)<;>refine zE tab_ok rfl rfl ?_|(refine zC rfl (fun _ => ?_) fun _ => ?_)<;>try (rename_i h; cases h; done)|refine zB ?_|refine zK ?_|refine zZ ⟨_, rfl, ?_⟩)
      refine Sq.loadS (v := .sl (.l 2002) r.needs.length capN) tab_ok rfl hV ?_
      refine Sq.lenS tab_ok rfl ?_
      repeat' (first|refine zS ?_|refine zR ?_|refine zE tab_ok rfl rfl ?_|refine zN ?_|(refine zG rfl rfl (fun _ => ?_) fun _ => ?_)<;>refine zE tab_ok rfl rfl ?_|(refine zC rfl (fun _ => ?_) fun _ => ?_)<;>try (rename_i h; cases h; done)|refine zB ?_|refine zK ?_|refine zZ ⟨_, rfl, ?_⟩)
      refine Tr.loopS (fun n : Nat => [(.s 2, .ptr (.l 2) 0), (.l 2, .blk 24 [.own 64 []]), (.s 3, .ptr (.l 3) 0), (.l 3, .blk 24 [.sl (.l 2000) c.length cap]), (.s 17, int c.length), (.s 18, int i), (.s 5, .ptr (.l 2000) (((i : Nat) : Int).toNat * 2)), (.l 2000, .blk 64 W), (.s 7, .ptr (.l 2001) (((k : Nat) : Int).toNat * 6)), (.l 2001, .blk 61 V), (.l 2002, .blk 105 (fl (r.needs.map ndT) ++ List.replicate pn .unk)), (.s 37, int s.rels.length), (.s 38, int k), (.s 59, int r.needs.length), (.s 60, int n)]) (fun n => r.needs.length - n) (fun n => n ≤ r.needs.length)
        0 (by omega) (Sub.app (l := [_, _, _, _, _, _, _, _, _, _, _, _, _, _, _]) (H := []) ⟨rfl, rfl, rfl, rfl, rfl, rfl, rfl, rfl, rfl, rfl, rfl, rfl, rfl, rfl, rfl, trivial⟩ (fun κ v h => nomatch h)) ?_
      rintro n hn
      repeat' (first|refine zS ?_|refine zR ?_|refine zE tab_ok rfl rfl ?_|refine zN ?_|(refine zG rfl rfl (fun _ => ?_) fun _ => ?_)<;>refine zE tab_ok rfl rfl ?_|(refine zC rfl (fun _ => ?_) fun _ => ?_)<;>try (rename_i h; cases h; done)|refine zB ?_|refine zK ?_|refine zZ ⟨_, rfl, ?_⟩)
      · rename_i h4
        have hln : n < r.needs.length := by have := of_decide_eq_true h4; omega
        obtain ⟨nd, hnd⟩ : ∃ r', r.needs[n]? = some r' := ⟨_, List.getElem?_eq_getElem hln⟩
        obtain ⟨_, hal, hac⟩ := Nd.of_small (hns nd (List.mem_of_getElem? hnd))
        have hnd' : (r.needs.map ndT)[n]? = some (ndT nd) := by rw [List.getElem?_map, hnd]; rfl
        have hcA0 := fl_at (es := 2) (by omega) (ag2 r.needs) hnd' (j := 1) (y := .ls (nd.r.map cmpsT)) rfl
        have hfN := fun κ => fl_refs κ (r.needs.map ndT) pn
        generalize fl (r.needs.map ndT) = NC at *
        have hcA : (NC ++ List.replicate pn AV.unk)[((n : Nat) : Int).toNat * 2 + 1]? = some (.tr (.ls (nd.r.map cmpsT))) := by
          rw [Int.toNat_natCast, List.getElem?_append_left (List.getElem?_eq_some_iff.1 hcA0).1]; exact hcA0
        have hltA := (List.getElem?_eq_some_iff.1 hcA).1
        generalize NC ++ List.replicate pn AV.unk = NC' at *
        refine Sq.nilC rfl ?_
        repeat' (first|refine zS ?_|refine zR ?_|refine zE tab_ok rfl rfl ?_|refine zN ?_|(refine zG rfl rfl (fun _ => ?_) fun _ => ?_)<;>refine zE tab_ok rfl rfl ?_|(refine zC rfl (fun _ => ?_) fun _ => ?_)<;>try (rename_i h; cases h; done)|refine zB ?_|refine zK ?_|refine zZ ⟨_, rfl, ?_⟩)
        refine Sq.loadS (v := .sl (.l 2002) r.needs.length capN) tab_ok rfl hV ?_
        refine zE tab_ok rfl rfl ?_
        refine Sq.indexS (j := ((n : Nat) : Int)) (len := r.needs.length) tab_ok rfl (by omega) (by omega) ?_
        repeat' (first|refine zS ?_|refine zR ?_|refine zE tab_ok rfl rfl ?_|refine zN ?_|(refine zG rfl rfl (fun _ => ?_) fun _ => ?_)<;>refine zE tab_ok rfl rfl ?_|(refine zC rfl (fun _ => ?_) fun _ => ?_)<;>try (rename_i h; cases h; done)|refine zB ?_|refine zK ?_|refine zZ ⟨_, rfl, ?_⟩)
        refine Sq.loadS (v := .tr (.ls (nd.r.map cmpsT))) tab_ok rfl hcA ?_
        by_cases ha0 : nd.r = []
        · have hA0 := cloneAn cmpsT (fun a => rfl) nd.r (by omega)
          refine Sq.callv rfl (hA0) ?_
          repeat' (first|refine zS ?_|refine zR ?_|refine zE tab_ok rfl rfl ?_|refine zN ?_|(refine zG rfl rfl (fun _ => ?_) fun _ => ?_)<;>refine zE tab_ok rfl rfl ?_|(refine zC rfl (fun _ => ?_) fun _ => ?_)<;>try (rename_i h; cases h; done)|refine zB ?_|refine zK ?_|refine zZ ⟨_, rfl, ?_⟩)
          refine Tr.loopS (fun a : Nat => [(.s 2, .ptr (.l 2) 0), (.l 2, .blk 24 [.own 64 []]), (.s 3, .ptr (.l 3) 0), (.l 3, .blk 24 [.sl (.l 2000) c.length cap]), (.s 17, int c.length), (.s 18, int i), (.s 5, .ptr (.l 2000) (((i : Nat) : Int).toNat * 2)), (.l 2000, .blk 64 W), (.s 7, .ptr (.l 2001) (((k : Nat) : Int).toNat * 6)), (.l 2001, .blk 61 V), (.l 2002, .blk 105 NC'), (.s 37, int s.rels.length), (.s 38, int k), (.s 59, int r.needs.length), (.s 60, int n), (.s 8, int n), (.s 9, .own 100 (nd.r.map cmpsT)), (.s 74, int (nd.r.map cmpsT).length), (.s 75, int 0)]) (fun n => 0) (fun _ => True)
            0 trivial (Sub.app (l := [_, _, _, _, _, _, _, _, _, _, _, _, _, _, _, _, _, _, _]) (H := []) ⟨rfl, rfl, rfl, rfl, rfl, rfl, rfl, rfl, rfl, rfl, rfl, rfl, rfl, rfl, rfl, rfl, rfl, rfl, rfl, trivial⟩ (fun κ v h => nomatch h)) ?_
          rintro a _
          repeat' (first|refine zS ?_|refine zR ?_|refine zE tab_ok rfl rfl ?_|refine zN ?_|(refine zG rfl rfl (fun _ => ?_) fun _ => ?_)<;>refine zE tab_ok rfl rfl ?_|(refine zC rfl (fun _ => ?_) fun _ => ?_)<;>try (rename_i h; cases h; done)|refine zB ?_|refine zK ?_|refine zZ ⟨_, rfl, ?_⟩)
          · exfalso
            rename_i h5
            rw [ha0] at h5
            cases h5
          · refine Tr.exit ?_
            repeat' (first|refine zS ?_|refine zR ?_|refine zE tab_ok rfl rfl ?_|refine zN ?_|(refine zG rfl rfl (fun _ => ?_) fun _ => ?_)<;>refine zE tab_ok rfl rfl ?_|(refine zC rfl (fun _ => ?_) fun _ => ?_)<;>try (rename_i h; cases h; done)|refine zB ?_|refine zK ?_|refine zZ ⟨_, rfl, ?_⟩)
            refine Sq.nilC rfl ?_
            repeat' (first|refine zS ?_|refine zR ?_|refine zE tab_ok rfl rfl ?_|refine zN ?_|(refine zG rfl rfl (fun _ => ?_) fun _ => ?_)<;>refine zE tab_ok rfl rfl ?_|(refine zC rfl (fun _ => ?_) fun _ => ?_)<;>try (rename_i h; cases h; done)|refine zB ?_|refine zK ?_|refine zZ ⟨_, rfl, ?_⟩)
            refine Sq.loadS (v := .sl (.l 2002) r.needs.length capN) tab_ok rfl hV ?_
            refine zE tab_ok rfl rfl ?_
            refine zE tab_ok rfl rfl ?_
            refine Sq.indexS (j := ((n : Nat) : Int)) (len := r.needs.length) tab_ok rfl (by omega) (by omega) ?_
            repeat' (first|refine zS ?_|refine zR ?_|refine zE tab_ok rfl rfl ?_|refine zN ?_|(refine zG rfl rfl (fun _ => ?_) fun _ => ?_)<;>refine zE tab_ok rfl rfl ?_|(refine zC rfl (fun _ => ?_) fun _ => ?_)<;>try (rename_i h; cases h; done)|refine zB ?_|refine zK ?_|refine zZ ⟨_, rfl, ?_⟩)
            refine Sq.storeS tab_ok rfl hltA ?_
            repeat' (first|refine zS ?_|refine zR ?_|refine zE tab_ok rfl rfl ?_|refine zN ?_|(refine zG rfl rfl (fun _ => ?_) fun _ => ?_)<;>refine zE tab_ok rfl rfl ?_|(refine zC rfl (fun _ => ?_) fun _ => ?_)<;>try (rename_i h; cases h; done)|refine zB ?_|refine zK ?_|refine zZ ⟨_, rfl, ?_⟩)
            exact ⟨n + 1, by omega, by omega, Sub.app (l := [_, _, _, _, _, _, _, _, _, _, _, _, _, _, _]) (H := []) ⟨rfl, rfl, rfl, rfl, rfl, rfl, rfl, rfl, rfl, rfl, congrArg (fun l => some (AV.blk 105 l)) (set_same hcA), rfl, rfl, rfl, congrArg some (wrapz (by omega) (by omega) (by omega)), trivial⟩ (fun κ v h => nomatch h)⟩
        have hA1 := cloneRA cmpsT (fun a => rfl) (xs := nd.r) ha0 (by omega)
        refine Sq.callv rfl (hA1) ?_
        refine Sq.thaw tab_ok 72 (.l 2003) (xs := nd.r.map cmpsT) rfl (by intro h; rw [List.map_eq_nil_iff] at h; exact ha0 h) rfl (by decide) rfl (by simp [-List.map_map, freshB, pinB, refsM, AV.refs, AV.deg, putO, hfV, hfN, hfW, refsL, Loc.eqb]; try decide) ?_
        intro capA hcapA
        rw [List.length_map] at hcapA ⊢
        rw [flat_one (by intro x hx; obtain ⟨a, _, rfl⟩ := List.mem_map.1 hx; rfl)]
        generalize hUA : List.replicate ((capA - nd.r.length) * 1) AV.unk = UA
        repeat' (first|refine zS ?_|refine zR ?_|refine zE tab_ok rfl rfl ?_|refine zN ?_|(refine zG rfl rfl (fun _ => ?_) fun _ => ?_)<;>refine zE tab_ok rfl rfl ?_|(refine zC rfl (fun _ => ?_) fun _ => ?_)<;>try (rename_i h; cases h; done)|refine zB ?_|refine zK ?_|refine zZ ⟨_, rfl, ?_⟩)
        refine Sq.lenS tab_ok rfl ?_
        repeat' (first|refine zS ?_|refine zR ?_|refine zE tab_ok rfl rfl ?_|refine zN ?_|(refine zG rfl rfl (fun _ => ?_) fun _ => ?_)<;>refine zE tab_ok rfl rfl ?_|(refine zC rfl (fun _ => ?_) fun _ => ?_)<;>try (rename_i h; cases h; done)|refine zB ?_|refine zK ?_|refine zZ ⟨_, rfl, ?_⟩)
        refine Tr.loopS (fun a : Nat => [(.s 2, .ptr (.l 2) 0), (.l 2, .blk 24 [.own 64 []]), (.s 3, .ptr (.l 3) 0), (.l 3, .blk 24 [.sl (.l 2000) c.length cap]), (.s 17, int c.length), (.s 18, int i), (.s 5, .ptr (.l 2000) (((i : Nat) : Int).toNat * 2)), (.l 2000, .blk 64 W), (.s 7, .ptr (.l 2001) (((k : Nat) : Int).toNat * 6)), (.l 2001, .blk 61 V), (.l 2002, .blk 105 NC'), (.s 37, int s.rels.length), (.s 38, int k), (.s 59, int r.needs.length), (.s 60, int n), (.s 8, int n), (.s 9, .sl (.l 2003) nd.r.length capA), (.l 2003, .blk 100 ((nd.r.map cmpsT).map AV.tr ++ UA)), (.s 74, int nd.r.length), (.s 75, int a)]) (fun a => nd.r.length - a) (fun a => a ≤ nd.r.length)
          0 (by omega) (Sub.app (l := [_, _, _, _, _, _, _, _, _, _, _, _, _, _, _, _, _, _, _, _]) (H := []) ⟨rfl, rfl, rfl, rfl, rfl, rfl, rfl, rfl, rfl, rfl, rfl, rfl, rfl, rfl, rfl, rfl, rfl, rfl, rfl, rfl, trivial⟩ (fun κ v h => nomatch h)) ?_
        rintro a ha
        repeat' (first|refine zS ?_|refine zR ?_|refine zE tab_ok rfl rfl ?_|refine zN ?_|(refine zG rfl rfl (fun _ => ?_) fun _ => ?_)<;>refine zE tab_ok rfl rfl ?_|(refine zC rfl (fun _ => ?_) fun _ => ?_)<;>try (rename_i h; cases h; done)|refine zB ?_|refine zK ?_|refine zZ ⟨_, rfl, ?_⟩)
        · rename_i h5
          have hla : a < nd.r.length := by have := of_decide_eq_true h5; omega
          obtain ⟨x, hx⟩ : ∃ x, nd.r[a]? = some x := ⟨_, List.getElem?_eq_getElem hla⟩
          have hxl := hac x (List.mem_of_getElem? hx)
          have hcX : ((nd.r.map cmpsT).map AV.tr ++ UA)[((a : Nat) : Int).toNat * 1]? = some (.tr (cmpsT x)) := by
            rw [Int.toNat_natCast, Nat.mul_one, List.getElem?_append_left (by rw [List.length_map, List.length_map]; exact hla), List.getElem?_map, List.getElem?_map, hx]; rfl
          have hltX := (List.getElem?_eq_some_iff.1 hcX).1
          have hX := cloneCp Cmp.t (fun a => rfl) x (by omega)
          generalize (nd.r.map cmpsT).map AV.tr ++ UA = AC at *
          refine Sq.indexS (j := ((a : Nat) : Int)) (len := nd.r.length) tab_ok rfl (by omega) (by omega) ?_
          refine Sq.loadS (v := .tr (cmpsT x)) tab_ok rfl hcX ?_
          refine Sq.callv rfl (hX) ?_
          refine Sq.indexS (j := ((a : Nat) : Int)) (len := nd.r.length) tab_ok rfl (by omega) (by omega) ?_
          refine Sq.storeS tab_ok rfl hltX ?_
          repeat' (first|refine zS ?_|refine zR ?_|refine zE tab_ok rfl rfl ?_|refine zN ?_|(refine zG rfl rfl (fun _ => ?_) fun _ => ?_)<;>refine zE tab_ok rfl rfl ?_|(refine zC rfl (fun _ => ?_) fun _ => ?_)<;>try (rename_i h; cases h; done)|refine zB ?_|refine zK ?_|refine zZ ⟨_, rfl, ?_⟩)
          exact ⟨a + 1, by omega, by omega, Sub.app (l := [_, _, _, _, _, _, _, _, _, _, _, _, _, _, _, _, _, _, _, _]) (H := []) ⟨rfl, rfl, rfl, rfl, rfl, rfl, rfl, rfl, rfl, rfl, rfl, rfl, rfl, rfl, rfl, rfl, rfl, congrArg (fun l => some (AV.blk 100 l)) (set_same hcX), rfl, congrArg some (wrapz (by omega) (by omega) (by omega)), trivial⟩ (fun κ v h => nomatch h)⟩
        · refine Tr.exit ?_
          refine Tr.turn (fun Γ a w h => RelX.freeze (es := 1) (xs := nd.r.map cmpsT) (cap := capA) (len := nd.r.length) (cells := (nd.r.map cmpsT).map AV.tr ++ UA) h (s := 9) (κ := .l 2003) rfl rfl rfl (by rw [List.length_map]) (by rw [List.length_append, List.length_map, List.length_map]; omega) (ag1 nd.r) (fun i j x y hx hy => ?_)) ?_
          · have h := fl_hc (es := 1) (by omega) (ag1 nd.r) UA i j x y hx hy
            have e : fl (nd.r.map cmpsT) = (nd.r.map cmpsT).map AV.tr := by unfold fl; rw [flat_one (by intro x hx; obtain ⟨a, _, rfl⟩ := List.mem_map.1 hx; rfl)]
            rw [e] at h
            exact h
          repeat' (first|refine zS ?_|refine zR ?_|refine zE tab_ok rfl rfl ?_|refine zN ?_|(refine zG rfl rfl (fun _ => ?_) fun _ => ?_)<;>refine zE tab_ok rfl rfl ?_|(refine zC rfl (fun _ => ?_) fun _ => ?_)<;>try (rename_i h; cases h; done)|refine zB ?_|refine zK ?_|refine zZ ⟨_, rfl, ?_⟩)
          refine Sq.nilC rfl ?_
          repeat' (first|refine zS ?_|refine zR ?_|refine zE tab_ok rfl rfl ?_|refine zN ?_|(refine zG rfl rfl (fun _ => ?_) fun _ => ?_)<;>refine zE tab_ok rfl rfl ?_|(refine zC rfl (fun _ => ?_) fun _ => ?_)<;>try (rename_i h; cases h; done)|refine zB ?_|refine zK ?_|refine zZ ⟨_, rfl, ?_⟩)
          refine Sq.loadS (v := .sl (.l 2002) r.needs.length capN) tab_ok rfl hV ?_
          refine zE tab_ok rfl rfl ?_
          refine zE tab_ok rfl rfl ?_
          refine Sq.indexS (j := ((n : Nat) : Int)) (len := r.needs.length) tab_ok rfl (by omega) (by omega) ?_
          repeat' (first|refine zS ?_|refine zR ?_|refine zE tab_ok rfl rfl ?_|refine zN ?_|(refine zG rfl rfl (fun _ => ?_) fun _ => ?_)<;>refine zE tab_ok rfl rfl ?_|(refine zC rfl (fun _ => ?_) fun _ => ?_)<;>try (rename_i h; cases h; done)|refine zB ?_|refine zK ?_|refine zZ ⟨_, rfl, ?_⟩)
          refine Sq.storeS tab_ok rfl hltA ?_
          repeat' (first|refine zS ?_|refine zR ?_|refine zE tab_ok rfl rfl ?_|refine zN ?_|(refine zG rfl rfl (fun _ => ?_) fun _ => ?_)<;>refine zE tab_ok rfl rfl ?_|(refine zC rfl (fun _ => ?_) fun _ => ?_)<;>try (rename_i h; cases h; done)|refine zB ?_|refine zK ?_|refine zZ ⟨_, rfl, ?_⟩)
          exact ⟨n + 1, by omega, by omega, Sub.app (l := [_, _, _, _, _, _, _, _, _, _, _, _, _, _, _]) (H := []) ⟨rfl, rfl, rfl, rfl, rfl, rfl, rfl, rfl, rfl, rfl, congrArg (fun l => some (AV.blk 105 l)) (set_same hcA), rfl, rfl, rfl, congrArg some (wrapz (by omega) (by omega) (by omega)), trivial⟩ (fun κ v h => nomatch h)⟩
      · refine Tr.exit ?_
        refine Tr.turn (fun Γ a w h => RelX.freezeC (κ0 := .l 2001) (κ := .l 2002) (off := ((k : Nat) : Int).toNat * 6 + 5) (len := r.needs.length) (cap := capN) (es := 2) (xs := r.needs.map ndT) (cells := fl (r.needs.map ndT) ++ List.replicate pn .unk) h rfl rfl hV rfl rfl rfl (by rw [List.length_map]) (by rw [List.length_append]; omega) (ag2 r.needs) (fl_hc (by omega) (ag2 r.needs) _)) ?_
        rw [hVb]
        repeat' (first|refine zS ?_|refine zR ?_|refine zE tab_ok rfl rfl ?_|refine zN ?_|(refine zG rfl rfl (fun _ => ?_) fun _ => ?_)<;>refine zE tab_ok rfl rfl ?_|(refine zC rfl (fun _ => ?_) fun _ => ?_)<;>try (rename_i h; cases h; done)|refine zB ?_|refine zK ?_|refine zZ ⟨_, rfl, ?_⟩)
        exact ⟨k + 1, by omega, by omega, Sub.app (l := [_, _, _, _, _, _, _, _, _, _, _]) (H := []) ⟨rfl, rfl, rfl, rfl, rfl, rfl, rfl, rfl, rfl, rfl, congrArg some (wrapz (by omega) (by omega) (by omega)), trivial⟩ (fun κ v h => nomatch h)⟩
    · refine Tr.exit ?_
      refine Tr.rawC tab_ok (.l 2000) (.l 2001) (((i : Nat) : Int).toNat * 2 + 1) (s.rels.map rlsT) rfl rfl hW rfl rfl rfl rfl ?_ rfl (by rw [List.length_map]) (by rw [List.length_append, List.length_replicate, hRl, ← hpr, ← Nat.add_mul]; congr 1; omega) (ag6 s.rels) (fl_hc (by omega) (ag6 s.rels) _) ?_
      · rw [hWb]
        have hu : refsL (.l 2001) (A.set (i * 2 + 1) .unk ++ List.replicate pd AV.unk) = false := by
          rw [← set_app (by omega)]; exact refsL_set rfl (hf _)
        simp [refsM, AV.refs, delL, hu, refsL, Loc.eqb]
        try decide
      rw [hWb, hnx]
      repeat' (first|refine zS ?_|refine zR ?_|refine zE tab_ok rfl rfl ?_|refine zN ?_|(refine zG rfl rfl (fun _ => ?_) fun _ => ?_)<;>refine zE tab_ok rfl rfl ?_|(refine zC rfl (fun _ => ?_) fun _ => ?_)<;>try (rename_i h; cases h; done)|refine zB ?_|refine zK ?_|refine zZ ⟨_, rfl, ?_⟩)
      exact ⟨i + 1, by omega, by omega, Sub.app (l := [_, _, _, _, _, _, _]) (H := []) ⟨rfl, rfl, rfl, rfl, rfl, rfl, congrArg some (wrapz (by omega) (by omega) (by omega)), trivial⟩ (fun κ v h => nomatch h)⟩
  · rename_i h2
    have hge : i = c.length := by have := of_decide_eq_false h2; omega
    subst hge
    rw [gA_full]
    refine Tr.exit ?_
    repeat' (first|refine zS ?_|refine zR ?_|refine zE tab_ok rfl rfl ?_|refine zN ?_|(refine zG rfl rfl (fun _ => ?_) fun _ => ?_)<;>refine zE tab_ok rfl rfl ?_|(refine zC rfl (fun _ => ?_) fun _ => ?_)<;>try (rename_i h; cases h; done)|refine zB ?_|refine zK ?_|refine zZ ⟨_, rfl, ?_⟩)
    refine zZ ⟨_, [(.l 2000, .blk 64 (svA c (fun _ s => .raw 61 true (s.rels.map rlsT)) ++ List.replicate pd .unk))], rfl, ⟨cap, hcap, rfl, by rw [hpd]⟩, fun κ v h => ?_, fun κ h => absurd rfl h⟩
    rw [lk_cons] at h
    split at h
    · rename_i e; subst e; obtain rfl := Option.some.inj h; exact ⟨rfl, rfl⟩
    · cases h
end Go.Lg.Tryz

set_option linter.unusedVariables false
set_option linter.unusedSimpArgs false
namespace Go.Lg.Tryz
open Go Go.Proofs Go.RowKit Go.Lib Go.Lg.Sem
end Go.Lg.Tryz

set_option linter.unusedVariables false
set_option linter.unusedSimpArgs false
namespace Go.Lg.Tryz
open Go Go.Proofs Go.RowKit Go.Lib Go.Lg.Sem
end Go.Lg.Tryz

set_option linter.unusedVariables false
set_option linter.unusedSimpArgs false
namespace Go.Lg.Tryz
open Go Go.Proofs Go.RowKit Go.Lib Go.Lg.Sem
end Go.Lg.Tryz

set_option linter.unusedVariables false
set_option linter.unusedSimpArgs false
namespace Go.Lg.Tryz
open Go Go.Proofs Go.RowKit Go.Lib Go.Lg.Sem
end Go.Lg.Tryz

set_option linter.unusedVariables false
set_option linter.unusedSimpArgs false
namespace Go.Lg.Tryz
open Go Go.Proofs Go.RowKit Go.Lib Go.Lg.Sem
end Go.Lg.Tryz

set_option linter.unusedVariables false
set_option linter.unusedSimpArgs false
namespace Go.Lg.Tryz
open Go Go.Proofs Go.RowKit Go.Lib Go.Lg.Sem
theorem steps_next (c : Ctl) (f t : List Int) : ∀ (n i k : Nat) (a b : Stp), (stepsUp c f t n)[i]? = some a → (stepsUp c f t n)[k]? = some b → a.s = b.s → b.k = a.k + 1 → k = i + 1 := by
  intro n
  induction n with
  | zero => intro i k a b h; simp [stepsUp] at h
  | succ n ih =>
    intro i k a b ha hb hs hk
    rw [stepsUp_succ] at ha hb
    rcases Nat.lt_or_ge k (stepsUp c f t n).length with h | h
    · rw [List.getElem?_append_left h] at hb
      have hbn := (stepsUp_mem.1 (List.mem_of_getElem? hb)).1
      rcases Nat.lt_or_ge i (stepsUp c f t n).length with h2 | h2
      · rw [List.getElem?_append_left h2] at ha
        exact ih i k a b ha hb hs hk
      · rw [List.getElem?_append_right h2] at ha
        have := (stepsAt_mem (List.mem_of_getElem? ha)).1
        omega
    · rw [List.getElem?_append_right h] at hb
      have hbn := (stepsAt_mem (List.mem_of_getElem? hb)).1
      rcases Nat.lt_or_ge i (stepsUp c f t n).length with h2 | h2
      · rw [List.getElem?_append_left h2] at ha
        have := (stepsUp_mem.1 (List.mem_of_getElem? ha)).1
        omega
      · rw [List.getElem?_append_right h2] at ha
        suffices k - (stepsUp c f t n).length = i - (stepsUp c f t n).length + 1 by omega
        generalize k - (stepsUp c f t n).length = j at *
        generalize i - (stepsUp c f t n).length = j' at *
        have one : ∀ {l : List Stp} {x : Stp} {j : Nat}, l = [⟨n, 2⟩] → l[j]? = some x → x.k = 2 := by
          intro l x j e h
          subst e
          have := List.mem_of_getElem? h
          simp at this; subst this; rfl
        have three : ∀ {l : List Stp} {x : Stp} {j : Nat}, l = [⟨n, 1⟩, ⟨n, 2⟩, ⟨n, 3⟩] → l[j]? = some x → x.k = j + 1 := by
          intro l x j e h
          subst e
          match j with
          | 0 => simp at h; subst h; rfl
          | 1 => simp at h; subst h; rfl
          | 2 => simp at h; subst h; rfl
          | j + 3 => simp at h
        unfold stepsAt at ha hb
        by_cases h3 : vAt f n = vAt t n
        · rw [if_pos h3] at ha; cases ha
        · rw [if_neg h3] at ha hb
          by_cases h4 : riseV c f t n = 0
          · rw [if_pos h4] at ha hb
            have := one rfl ha
            have := one rfl hb
            omega
          · rw [if_neg h4] at ha hb
            have := three rfl ha
            have := three rfl hb
            omega
end Go.Lg.Tryz

set_option linter.unusedVariables false
set_option linter.unusedSimpArgs false
namespace Go.Lg.Tryz
open Go Go.Proofs Go.RowKit Go.Lib Go.Lg.Sem
def bareR (r : Rls) : Rls := ⟨r.v, r.level, []⟩
def bareS (s : Svc) : Svc := ⟨s.name, s.rels.map bareR⟩
abbrev bareC (c : Ctl) : Ctl := c.map bareS
def Bare (c : Ctl) : Prop := ∀ s, s ∈ c → ∀ r, r ∈ s.rels → r.needs = []
theorem bare_bare (c : Ctl) : Bare (bareC c) := by
  intro s hs r hr
  obtain ⟨s', _, rfl⟩ := List.mem_map.1 hs
  obtain ⟨r', _, rfl⟩ := List.mem_map.1 hr
  rfl
theorem bare_ok {c : Ctl} (h : Ctl.ok c) : Ctl.ok (bareC c) := by
  refine ⟨by rw [List.length_map]; exact h.1, fun s hs => ?_⟩
  obtain ⟨s', hs', rfl⟩ := List.mem_map.1 hs
  obtain ⟨h2, h3⟩ := h.2 s' hs'
  refine ⟨by show (s'.rels.map bareR).length ≤ _; rw [List.length_map]; exact h2, fun r hr => ?_⟩
  obtain ⟨r', hr', rfl⟩ := List.mem_map.1 hr
  obtain ⟨h4, h5, h6⟩ := h3 r' hr'
  exact ⟨by show ([] : List Nd).length ≤ _; simp, h5, fun n hn => by cases hn⟩
theorem bare_lv {c : Ctl} (h : LvOk c) : LvOk (bareC c) := by
  intro s hs
  obtain ⟨s', hs', rfl⟩ := List.mem_map.1 hs
  obtain ⟨h2, h3⟩ := h s' hs'
  refine ⟨by show (s'.rels.map bareR).length ≤ _; rw [List.length_map]; exact h2, fun r hr => ?_⟩
  obtain ⟨r', hr', rfl⟩ := List.mem_map.1 hr
  exact h3 r' hr'
theorem bare_rel {c : Ctl} (h : Bare c) {i v : Int} {r : Rls} (hr : relAt c i v = some r) : r.needs = [] := by
  unfold relAt at hr
  split at hr
  · rename_i s hs
    split at hr
    · exact h s (List.mem_of_getElem? hs) r (List.mem_of_getElem? hr)
    · cases hr
  · cases hr
theorem bare_fits {c : Ctl} (h : Bare c) {f g : List Int} (hf : rightV c f = true) (hg : rightV c g = true) {i j : Nat} (hi : i < f.length) (hj : j < f.length) (hij : i ≠ j) : fitsB c i (vAt f i) j (vAt g j) = true := by
  obtain ⟨hfl, hfa⟩ := rightV_at hf
  obtain ⟨hgl, hga⟩ := rightV_at hg
  obtain ⟨v, s, r, e1, e2, e3, e4, e5⟩ := hfa i hi
  obtain ⟨w, s', r', d1, d2, d3, d4, d5⟩ := hga j (by omega)
  rw [vAt_of e1, vAt_of d1]
  unfold fitsB
  rw [e5, d5]
  have n1 := bare_rel h e5
  have n2 := bare_rel h d5
  have m1 : metB r j r'.v = true := by unfold metB; rw [n1]; rfl
  have m2 : metB r' i r.v = true := by unfold metB; rw [n2]; rfl
  show (pairB c i j && (metB r j r'.v && metB r' i r.v)) = true
  rw [m1, m2]
  unfold pairB
  simp only [Bool.and_true, Bool.and_eq_true, decide_eq_true_eq, bne_iff_ne]
  omega
theorem bare_good {c : Ctl} (hlv : LvOk c) (h : Bare c) {vs : List Int} (hr : rightV c vs = true) : goodB c (pls c vs) = true :=
  (good_iff hlv hr).2 fun i j hj hi => bare_fits h hr hr hi (by omega) (by omega)
theorem bare_ends {c : Ctl} (hlv : LvOk c) (h : Bare c) (f t : List Int) : endsV c f t = 0 ∨ endsV c f t = 42 ∨ endsV c f t = 43 := by
  unfold endsV
  by_cases h1 : rightV c f = false ∨ rightV c t = false
  · rw [if_pos h1]; exact .inr (.inl rfl)
  · rw [if_neg h1]
    have hf : rightV c f = true := by cases e : rightV c f; exact absurd (.inl e) h1; rfl
    have ht : rightV c t = true := by cases e : rightV c t; exact absurd (.inr e) h1; rfl
    rw [if_neg (by rw [bare_good hlv h hf, bare_good hlv h ht]; simp)]
    split
    · exact .inr (.inr rfl)
    · exact .inl rfl
theorem bare_ahead {c : Ctl} (h : Bare c) {f t : List Int} (E : Ends0 c f t) {a b : Stp} (ha : a ∈ stepsV c f t) (hb : b ∈ stepsV c f t) (hab : aheadS c f t a b = true) : a.s = b.s ∧ b.k = a.k + 1 := by
  have ha := (stepsUp_mem.1 ha).1
  have hb := (stepsUp_mem.1 hb).1
  unfold aheadS at hab
  by_cases hs : a.s = b.s
  · rw [if_pos hs, beq_iff_eq] at hab; exact ⟨hs, hab⟩
  · rw [if_neg hs, bare_fits h E.rf E.rt ha hb hs] at hab
    simp at hab
theorem bare_edge {c : Ctl} (h : Bare c) {f t : List Int} (E : Ends0 c f t) {p : Nat × Nat} (hp : p ∈ befV c f t) : p.2 = p.1 + 1 := by
  obtain ⟨a, b, ha, hb, hab⟩ := bef_mem.1 hp
  obtain ⟨h1, h2⟩ := bare_ahead h E (List.mem_of_getElem? ha) (List.mem_of_getElem? hb) hab
  exact steps_next c f t f.length p.1 p.2 a b ha hb h1 h2
theorem bare_cyc {c : Ctl} (h : Bare c) {f t : List Int} (E : Ends0 c f t) : ¬ CycP (stepsV c f t).length (befV c f t) := by
  have up : ∀ {a b : Nat}, EdgeWay (befV c f t) a b → a < b := by
    intro a b hw
    induction hw with
    | one e => have := bare_edge h E e; simp only at this; omega
    | snoc _ e ih => have := bare_edge h E e; simp only at this; omega
  rintro ⟨a, _, hw⟩
  exact Nat.lt_irrefl _ (up hw)
def nxS (a : Stp) : Stp := ⟨a.s, a.k + 1⟩
theorem bare_row {c : Ctl} (h : Bare c) {f t : List Int} (E : Ends0 c f t) {i : Nat} {a : Stp} (ha : (stepsV c f t)[i]? = some a) : (befRow c f t (stepsV c f t) i (stepsV c f t).length).length = if nxS a ∈ stepsV c f t then 1 else 0 := by
  have hnd : (stepsV c f t).Nodup := stepsUp_nodup c f t f.length
  have key : ∀ b, b ∈ stepsV c f t → aheadS c f t a b = (b == nxS a) := by
    intro b hb
    rw [Bool.eq_iff_iff, beq_iff_eq]
    constructor
    · intro hab
      obtain ⟨h1, h2⟩ := bare_ahead h E (List.mem_of_getElem? ha) hb hab
      obtain ⟨s, kk⟩ := b
      simp only at h1 h2
      subst h1; subst h2; rfl
    · intro e
      subst e
      show aheadS c f t a (nxS a) = true
      unfold aheadS nxS
      rw [if_pos rfl]; simp
  rw [befRow_eq ha, List.filter_congr key]
  exact nodup_count _ hnd
theorem bare_befs {c : Ctl} (h : Bare c) {f t : List Int} (E : Ends0 c f t) : ∀ i, i ≤ (stepsV c f t).length → (befUp c f t (stepsV c f t) i).length = (((stepsV c f t).take i).filter fun a => decide (nxS a ∈ stepsV c f t)).length := by
  intro i
  induction i with
  | zero => intro _; simp [befUp]
  | succ i ih =>
    intro hi
    obtain ⟨a, ha⟩ : ∃ a, (stepsV c f t)[i]? = some a := ⟨_, List.getElem?_eq_getElem (by omega)⟩
    rw [befUp_succ, List.length_append, ih (by omega), bare_row h E ha, List.take_add_one, ha, List.filter_append, List.length_append]
    congr 1
    show _ = ([a].filter _).length
    rw [List.filter_cons]
    by_cases hm : nxS a ∈ stepsV c f t
    · rw [if_pos hm, if_pos (decide_eq_true hm)]; rfl
    · rw [if_neg hm, if_neg (by simpa using hm)]; rfl
theorem bare_half {c : Ctl} {f t : List Int} (E : Ends0 c f t) : ∀ n, n ≤ f.length → ((stepsUp c f t n).filter fun a => decide (nxS a ∈ stepsV c f t)).length = 2 * ((stepsUp c f t n).filter fun a => a.k == 1).length := by
  intro n
  induction n with
  | zero => intro _; rfl
  | succ n ih =>
    intro hn
    rw [stepsUp_succ, List.filter_append, List.filter_append, List.length_append, List.length_append, ih (by omega), Nat.mul_add]
    congr 1
    have key : ∀ k, (⟨n, k⟩ : Stp) ∈ stepsV c f t ↔ (⟨n, k⟩ : Stp) ∈ stepsAt c f t n := fun k => ⟨fun h => (stepsUp_mem.1 h).2, fun h => stepsUp_mem.2 ⟨by show n < f.length; omega, h⟩⟩
    have e : (stepsAt c f t n).filter (fun a => decide (nxS a ∈ stepsV c f t)) = (stepsAt c f t n).filter (fun a => decide (nxS a ∈ stepsAt c f t n)) := by
      refine List.filter_congr fun a ha => ?_
      have hs := (stepsAt_mem ha).1
      unfold nxS
      rw [hs]
      exact decide_eq_decide.2 (key _)
    rw [e]
    unfold stepsAt
    split
    · rfl
    · split
      · simp [nxS]
      · simp [nxS]
theorem bare_count {c : Ctl} (h : Bare c) {f t : List Int} (E : Ends0 c f t) : (befV c f t).length = 2 * ((stepsV c f t).filter fun a => a.k == 1).length := by
  unfold befV
  rw [bare_befs h E _ (Nat.le_refl _), List.take_of_length_le (Nat.le_refl _)]
  exact bare_half E f.length (Nat.le_refl _)
end Go.Lg.Tryz

set_option linter.unusedVariables false
set_option linter.unusedSimpArgs false
namespace Go.Lg.Tryz
open Go Go.Proofs Go.RowKit Go.Lib Go.Lg.Sem
theorem fl_ext {es : Nat} (hpos : 0 < es) {xs ys : List T} (hx : ∀ x, x ∈ xs → x.cells.length = es) (hy : ∀ x, x ∈ ys → x.cells.length = es) {L : List AV} (hl : L.length = ys.length * es)
    (h : ∀ k j y z, ys[k]? = some y → y.cells[j]? = some z → L[k * es + j]? = some (.tr z)) : L = fl ys := by
  apply List.ext_getElem?
  intro i
  by_cases hi : i < ys.length * es
  · have hk : i / es < ys.length := Nat.div_lt_of_lt_mul (by rw [Nat.mul_comm]; exact hi)
    obtain ⟨y, hyk⟩ : ∃ y, ys[i / es]? = some y := ⟨_, List.getElem?_eq_getElem hk⟩
    have hyl := hy y (List.mem_of_getElem? hyk)
    have hjl : i % es < y.cells.length := by rw [hyl]; exact Nat.mod_lt _ hpos
    obtain ⟨z, hz⟩ : ∃ z, y.cells[i % es]? = some z := ⟨_, List.getElem?_eq_getElem hjl⟩
    have e1 := h _ _ _ _ hyk hz
    have e2 := fl_at hpos hy hyk hz
    have e : i / es * es + i % es = i := by rw [Nat.mul_comm]; exact Nat.div_add_mod i es
    rw [e] at e1 e2
    rw [e1, e2]
  · rw [List.getElem?_eq_none (by omega), List.getElem?_eq_none (by rw [fl_len hpos hy]; omega)]
theorem fl_set {es : Nat} (hpos : 0 < es) {xs : List T} (hx : ∀ x, x ∈ xs → x.cells.length = es) {k j : Nat} {x x' : T} {y : T} (hk : xs[k]? = some x) (hc : x'.cells = x.cells.set j y) (hj : j < es) : (fl xs).set (k * es + j) (.tr y) = fl (xs.set k x') := by
  have hkl := (List.getElem?_eq_some_iff.1 hk).1
  have hxl := hx x (List.mem_of_getElem? hk)
  have hx' : ∀ z, z ∈ xs.set k x' → z.cells.length = es := by
    intro z hz
    rcases List.mem_or_eq_of_mem_set hz with h | h
    · exact hx z h
    · subst h; rw [hc, List.length_set]; exact hxl
  refine fl_ext (es := es) hpos hx hx' (by rw [List.length_set, fl_len hpos hx, List.length_set]) ?_
  intro i m u z hu hz
  have hml : m < es := by rw [← hx' u (List.mem_of_getElem? hu)]; exact (List.getElem?_eq_some_iff.1 hz).1
  by_cases e : i = k
  · subst e
    rw [List.getElem?_set_self hkl] at hu
    obtain rfl := Option.some.inj hu
    rw [hc] at hz
    by_cases e2 : m = j
    · subst e2
      rw [List.getElem?_set_self (by omega)] at hz
      obtain rfl := Option.some.inj hz
      have hb : i * es + m < (fl xs).length := by
        rw [fl_len hpos hx]
        have : (i + 1) * es ≤ xs.length * es := Nat.mul_le_mul_right _ (by omega)
        rw [Nat.succ_mul] at this; omega
      rw [List.getElem?_set_self hb]
    · rw [List.getElem?_set_ne (fun h => e2 h.symm)] at hz
      rw [List.getElem?_set_ne (by omega)]
      exact fl_at hpos hx hk hz
  · rw [List.getElem?_set_ne (fun h => e h.symm)] at hu
    rw [List.getElem?_set_ne]
    · exact fl_at hpos hx hu hz
    · intro h
      apply e
      have h1 : (k * es + j) / es = k := by rw [Nat.mul_comm, Nat.mul_add_div hpos, Nat.div_eq_of_lt hj]; omega
      have h2 : (i * es + m) / es = i := by rw [Nat.mul_comm, Nat.mul_add_div hpos, Nat.div_eq_of_lt hml]; omega
      rw [← h1, ← h2, h]
def relB (l : List Rls) (b : Nat) : List Rls := (l.take b).map bareR ++ l.drop b
theorem relB_len (l : List Rls) (b : Nat) : (relB l b).length = l.length := by unfold relB; simp; omega
theorem relB_zero (l : List Rls) : relB l 0 = l := by unfold relB; simp
theorem relB_full (l : List Rls) : relB l l.length = l.map bareR := by unfold relB; simp
theorem relB_at {l : List Rls} {b : Nat} {r : Rls} (h : l[b]? = some r) : (relB l b)[b]? = some r := by
  have hb := (List.getElem?_eq_some_iff.1 h).1
  unfold relB
  rw [List.getElem?_append_right (by simp; omega), List.getElem?_drop]
  simp only [List.length_map, List.length_take]
  rw [show b + (b - min b l.length) = b by omega]; exact h
theorem relB_succ {l : List Rls} {b : Nat} {r : Rls} (h : l[b]? = some r) : relB l (b + 1) = (relB l b).set b (bareR r) := by
  have hb := (List.getElem?_eq_some_iff.1 h).1
  apply List.ext_getElem?
  intro k
  rw [List.getElem?_set]
  unfold relB
  by_cases e : b = k
  · subst e
    rw [if_pos rfl, if_pos (by simp; omega), List.getElem?_append_left (by simp; omega), List.getElem?_map, List.getElem?_take_of_lt (by omega), h]; rfl
  · rw [if_neg e]
    rcases Nat.lt_or_ge k b with h2 | h2
    · rw [List.getElem?_append_left (by simp; omega), List.getElem?_append_left (by simp; omega), List.getElem?_map, List.getElem?_map, List.getElem?_take_of_lt (by omega), List.getElem?_take_of_lt (by omega)]
    · rw [List.getElem?_append_right (by simp; omega), List.getElem?_append_right (by simp; omega), List.getElem?_drop, List.getElem?_drop]
      simp only [List.length_map, List.length_take]
      rw [show b + 1 + (k - min (b + 1) l.length) = k by omega, show b + (k - min b l.length) = k by omega]
def gB (a k : Nat) (s : Svc) : AV := if k < a then .tr (.ls ((s.rels.map bareR).map rlsT)) else .raw 61 true (s.rels.map rlsT)
theorem gB_refs (κ : Loc) (i k : Nat) (s : Svc) : (gB i k s).refs κ = false := by unfold gB; split <;> rfl
theorem gB_zero (c : Ctl) : svA c (gB 0) = svA c (fun _ s => .raw 61 true (s.rels.map rlsT)) := svA_congr fun k s _ => by unfold gB; rw [if_neg (by omega)]
theorem gB_full (c : Ctl) : svA c (gB c.length) = fl ((bareC c).map svcT) := by
  rw [svA_fl]
  have : svA c (gB c.length) = svA c (fun _ s => .tr (.ls ((bareS s).rels.map rlsT))) := svA_congr fun k s h => by unfold gB; rw [if_pos (List.getElem?_eq_some_iff.1 h).1]; rfl
  rw [this]
  unfold svA bareC
  rw [List.length_map]
  refine List.map_congr_left fun k _ => ?_
  rw [List.getElem?_map]
  cases c[k / 2]? <;> rfl
theorem gB_succ {c : Ctl} {i : Nat} {s : Svc} (h : c[i]? = some s) : (svA c (gB i)).set (i * 2 + 1) (.tr (.ls ((s.rels.map bareR).map rlsT))) = svA c (gB (i + 1)) := by
  rw [svA_set (List.getElem?_eq_some_iff.1 h).1]
  refine svA_congr fun k s' h' => ?_
  by_cases e : k = i
  · subst e
    obtain rfl := Option.some.inj (h.symm.trans h')
    rw [if_pos rfl]; unfold gB; rw [if_pos (by omega)]
  · rw [if_neg e]; unfold gB
    by_cases e2 : k < i
    · rw [if_pos e2, if_pos (by omega)]
    · rw [if_neg e2, if_neg (by omega)]
theorem svcE_rels {c : Ctl} {cyc : Bool} (h : (checkV c cyc).2.2 = 0) : ∀ s, s ∈ c → 1 ≤ s.rels.length := by
  obtain ⟨_, _, _, hall⟩ := right_of h
  intro s hs
  obtain ⟨i, hi⟩ := List.mem_iff_getElem?.1 hs
  have hE := hall i (List.getElem?_eq_some_iff.1 hi).1
  have hv : svcV c i = 0 := by
    apply Classical.byContradiction
    intro hv
    rw [svcE_svc hv] at hE
    exact hv hE
  unfold svcV at hv
  rw [hi] at hv
  simp only at hv
  split at hv
  · omega
  · split at hv
    · omega
    · split at hv
      · omega
      · omega
theorem ag2s (l : Ctl) : ∀ x, x ∈ l.map svcT → x.cells.length = 2 := by intro x hx; obtain ⟨a, _, rfl⟩ := List.mem_map.1 hx; rfl
set_option maxRecDepth 8192 in
set_option maxHeartbeats 3200000 in
theorem PlanBare_ok (c : Ctl) (f t : List Int) : Fn Tryz.prog Gw 7 [.tr (ctlT c), .tr (.ls (f.map intT)), .tr (.ls (t.map intT))] [] (· = bool true) := by
  obtain ⟨cyc, hc⟩ := cyc_ex c
  have hA := planAnchor_ok
  have hM := catRight_ok c hc
  refine Fn.of tab_ok Tryz.func7 rfl (by decide) (by simp [Tryz.f7]) rfl (fun κ v h => by cases h) Gw.below ?_
  repeat' (first|refine zS ?_|refine zR ?_|refine zE tab_ok rfl rfl ?_|refine zN ?_|(refine zG rfl rfl (fun _ => ?_) fun _ => ?_)<;>refine zE tab_ok rfl rfl ?_|(refine zC rfl (fun _ => ?_) fun _ => ?_)<;>try (rename_i h; cases h; done)|refine zB ?_|refine zK ?_|refine zZ ⟨_, rfl, ?_⟩)
  refine Sq.callv rfl (hA) ?_
  repeat' (first|refine zS ?_|refine zR ?_|refine zE tab_ok rfl rfl ?_|refine zN ?_|(refine zG rfl rfl (fun _ => ?_) fun _ => ?_)<;>refine zE tab_ok rfl rfl ?_|(refine zC rfl (fun _ => ?_) fun _ => ?_)<;>try (rename_i h; cases h; done)|refine zB ?_|refine zK ?_|refine zZ ⟨_, rfl, ?_⟩)
  refine zL rfl hM ?_
  rintro _ ⟨q, rfl, hq⟩
  cases hs : smallC c && ((checkV c cyc).2.2 == 0)
  · repeat' (first|refine zS ?_|refine zR ?_|refine zE tab_ok rfl rfl ?_|refine zN ?_|(refine zG rfl rfl (fun _ => ?_) fun _ => ?_)<;>refine zE tab_ok rfl rfl ?_|(refine zC rfl (fun _ => ?_) fun _ => ?_)<;>try (rename_i h; cases h; done)|refine zB ?_|refine zK ?_|refine zZ ⟨_, rfl, ?_⟩)
    rfl
  have e := hq hs
  subst e
  rw [Bool.and_eq_true, beq_iff_eq] at hs
  obtain ⟨hs, hv⟩ := hs
  obtain ⟨hc1, hc2, hcy, _⟩ := right_of hv
  have hr1 := svcE_rels hv
  have hlv := levels_of hv
  have hok := bare_ok (ctl_ok hs)
  have hlvB := bare_lv hlv
  have hB := bare_bare q
  have hcB : (bareC q).length = q.length := List.length_map ..
  repeat' (first|refine zS ?_|refine zR ?_|refine zE tab_ok rfl rfl ?_|refine zN ?_|(refine zG rfl rfl (fun _ => ?_) fun _ => ?_)<;>refine zE tab_ok rfl rfl ?_|(refine zC rfl (fun _ => ?_) fun _ => ?_)<;>try (rename_i h; cases h; done)|refine zB ?_|refine zK ?_|refine zZ ⟨_, rfl, ?_⟩)
  · rfl
  · rfl
  rename_i g1 g2
  have g1 : decide (((f.map intT).length : Int) > 30) = false := g1
  rw [List.length_map] at g1
  have g1 := of_decide_eq_false g1
  have g2 : decide (((t.map intT).length : Int) > 30) = false := g2
  rw [List.length_map] at g2
  have g2 := of_decide_eq_false g2
  refine Sq.callN (H := []) rfl (fun κ v h => nomatch h) (fun κ ty cells h => nomatch h) (fun x hx κ hr => ?_) (catClone_ok q hs hc1 hr1) (fun r N h => ?_) ?_
  · have hx := List.mem_singleton.1 hx; subst hx; cases hr
  · obtain ⟨cap, hcap, rfl, rfl⟩ := h
    refine ⟨⟨rfl, fun κ hr => ?_⟩, fun κ v h => ?_, fun κ ty cells h x hx κ' hr => ?_⟩
    · cases hr with
      | agg _ x hx h =>
        have hx := List.mem_singleton.1 hx; subst hx
        cases h; rw [lk_self]; simp
    · rw [lk_cons] at h
      split at h
      · rename_i e; subst e; exact .inr rfl
      · cases h
    · exfalso
      rw [lk_cons] at h
      split at h
      · rename_i e
        have h := Option.some.inj h
        injection h with h1 h2
        subst h2
        have := refsL_mem hx (refs_of hr)
        rw [svA_refs (fun k s _ => rfl)] at this
        cases this
      · cases h
  rintro r N ⟨cap, hcap, rfl, rfl⟩
  generalize hpd : (cap - q.length) * 2 = pd
  rw [← gB_zero]
  have hf0 := fun κ => svA_refs (κ := κ) (c := q) (g := gB 0) (fun k s _ => gB_refs κ 0 k s) pd
  refine zE tab_ok rfl (by simp [-List.map_map, freshB, pinB, refsM, AV.refs, hf0, refsL, Loc.eqb, putO, entryS, ctlArg]; try decide) ?_
  repeat' (first|refine zS ?_|refine zR ?_|refine zE tab_ok rfl rfl ?_|refine zN ?_|(refine zG rfl rfl (fun _ => ?_) fun _ => ?_)<;>refine zE tab_ok rfl rfl ?_|(refine zC rfl (fun _ => ?_) fun _ => ?_)<;>try (rename_i h; cases h; done)|refine zB ?_|refine zK ?_|refine zZ ⟨_, rfl, ?_⟩)
  refine Sq.lenS tab_ok rfl ?_
  repeat' (first|refine zS ?_|refine zR ?_|refine zE tab_ok rfl rfl ?_|refine zN ?_|(refine zG rfl rfl (fun _ => ?_) fun _ => ?_)<;>refine zE tab_ok rfl rfl ?_|(refine zC rfl (fun _ => ?_) fun _ => ?_)<;>try (rename_i h; cases h; done)|refine zB ?_|refine zK ?_|refine zZ ⟨_, rfl, ?_⟩)
  refine Tr.loopS (fun a : Nat => [(.s 1, .tr (.ls (f.map intT))), (.s 2, .tr (.ls (t.map intT))), (.s 9, .ptr (.l 9) 0), (.l 9, .blk 24 [.sl (.l 2000) q.length cap]), (.l 2000, .blk 64 (svA q (gB a) ++ List.replicate pd .unk)), (.s 44, int q.length), (.s 45, int a)]) (fun a => q.length - a) (fun a => a ≤ q.length)
    0 (by omega) (Sub.app (l := [_, _, _, _, _, _, _]) (H := []) ⟨rfl, rfl, rfl, rfl, rfl, rfl, rfl, trivial⟩ (fun κ v h => nomatch h)) ?_
  rintro a ha
  rcases Nat.lt_or_ge a q.length with hlt | hge
  · obtain ⟨s, hsa⟩ : ∃ s, q[a]? = some s := ⟨_, List.getElem?_eq_getElem hlt⟩
    have hrl := (hlv s (List.mem_of_getElem? hsa)).1
    have hr1' := hr1 s (List.mem_of_getElem? hsa)
    have hne : s.rels.map rlsT ≠ [] := by intro h; rw [List.map_eq_nil_iff] at h; rw [h] at hr1'; simp at hr1'
    have hcl : (svA q (gB a))[a * 2 + 1]? = some (.raw 61 true (s.rels.map rlsT)) := by rw [svA_at1 hsa]; unfold gB; rw [if_neg (by omega)]
    have hsl := svA_len q (gB a)
    have hnx := gB_succ hsa
    have hf := fun κ => svA_refs (κ := κ) (c := q) (g := gB a) (fun k s _ => gB_refs κ a k s) pd
    generalize svA q (gB a) = A at *
    have hcell : (A ++ List.replicate pd AV.unk)[a * 2 + 1]? = some (.raw 61 true (s.rels.map rlsT)) := by rw [List.getElem?_append_left (by omega)]; exact hcl
    refine Tr.thawC tab_ok (.l 2000) (.l 2001) (a * 2 + 1) rfl rfl hcell hne rfl (by decide) rfl rfl (by simp [-List.map_map, freshB, pinB, refsM, AV.refs, hf, refsL, Loc.eqb]; try decide) ?_
    intro capR hcapR
    rw [List.length_map] at hcapR ⊢
    rw [show ((s.rels.map rlsT).flatMap T.cells).map AV.tr = fl (s.rels.map rlsT) from rfl]
    generalize hpr : (capR - s.rels.length) * 6 = pr
    have hW : ((A ++ List.replicate pd AV.unk).set (a * 2 + 1) (AV.sl (.l 2001) s.rels.length capR))[((a : Nat) : Int).toNat * 2 + 1]? = some (.sl (.l 2001) s.rels.length capR) := by
      rw [Int.toNat_natCast, List.getElem?_set_self (by rw [List.length_append]; omega)]
    have hWb : ∀ v, ((A ++ List.replicate pd AV.unk).set (a * 2 + 1) (AV.sl (.l 2001) s.rels.length capR)).set (a * 2 + 1) v = A.set (a * 2 + 1) v ++ List.replicate pd AV.unk := fun v => by rw [List.set_set, set_app (by omega)]
    generalize (A ++ List.replicate pd AV.unk).set (a * 2 + 1) (AV.sl (.l 2001) s.rels.length capR) = W at *
    repeat' (first|refine zS ?_|refine zR ?_|refine zE tab_ok rfl rfl ?_|refine zN ?_|(refine zG rfl rfl (fun _ => ?_) fun _ => ?_)<;>refine zE tab_ok rfl rfl ?_|(refine zC rfl (fun _ => ?_) fun _ => ?_)<;>try (rename_i h; cases h; done)|refine zB ?_|refine zK ?_|refine zZ ⟨_, rfl, ?_⟩)
    · refine Sq.indexS (j := ((a : Nat) : Int)) (len := q.length) tab_ok rfl (by omega) (by omega) ?_
      repeat' (first|refine zS ?_|refine zR ?_|refine zE tab_ok rfl rfl ?_|refine zN ?_|(refine zG rfl rfl (fun _ => ?_) fun _ => ?_)<;>refine zE tab_ok rfl rfl ?_|(refine zC rfl (fun _ => ?_) fun _ => ?_)<;>try (rename_i h; cases h; done)|refine zB ?_|refine zK ?_|refine zZ ⟨_, rfl, ?_⟩)
      refine Sq.loadS (v := .sl (.l 2001) s.rels.length capR) tab_ok rfl hW ?_
      refine Sq.lenS tab_ok rfl ?_
      repeat' (first|refine zS ?_|refine zR ?_|refine zE tab_ok rfl rfl ?_|refine zN ?_|(refine zG rfl rfl (fun _ => ?_) fun _ => ?_)<;>refine zE tab_ok rfl rfl ?_|(refine zC rfl (fun _ => ?_) fun _ => ?_)<;>try (rename_i h; cases h; done)|refine zB ?_|refine zK ?_|refine zZ ⟨_, rfl, ?_⟩)
      refine Tr.loopS (fun b : Nat => [(.s 1, .tr (.ls (f.map intT))), (.s 2, .tr (.ls (t.map intT))), (.s 9, .ptr (.l 9) 0), (.l 9, .blk 24 [.sl (.l 2000) q.length cap]), (.l 2000, .blk 64 W), (.s 44, int q.length), (.s 45, int a), (.s 10, int a), (.l 2001, .blk 61 (fl ((relB s.rels b).map rlsT) ++ List.replicate pr .unk)), (.s 54, int s.rels.length), (.s 55, int b)]) (fun b => s.rels.length - b) (fun b => b ≤ s.rels.length)
        0 (by omega) (Sub.app (l := [_, _, _, _, _, _, _, _, _, _, _]) (H := []) ⟨rfl, rfl, rfl, rfl, rfl, rfl, rfl, rfl, by rw [relB_zero]; rfl, rfl, rfl, trivial⟩ (fun κ v h => nomatch h)) ?_
      rintro b hb
      have hRl := fl_len (es := 6) (by omega) (ag6 (relB s.rels b))
      rw [List.length_map, relB_len] at hRl
      repeat' (first|refine zS ?_|refine zR ?_|refine zE tab_ok rfl rfl ?_|refine zN ?_|(refine zG rfl rfl (fun _ => ?_) fun _ => ?_)<;>refine zE tab_ok rfl rfl ?_|(refine zC rfl (fun _ => ?_) fun _ => ?_)<;>try (rename_i h; cases h; done)|refine zB ?_|refine zK ?_|refine zZ ⟨_, rfl, ?_⟩)
      · rename_i h3
        have hlb : b < s.rels.length := by have := of_decide_eq_true h3; omega
        obtain ⟨r, hrb⟩ : ∃ r, s.rels[b]? = some r := ⟨_, List.getElem?_eq_getElem hlb⟩
        have hat : ((relB s.rels b).map rlsT)[b]? = some (rlsT r) := by rw [List.getElem?_map, relB_at hrb]; rfl
        have hset := fl_set (es := 6) (by omega) (ag6 (relB s.rels b)) (x' := rlsT (bareR r)) (j := 5) (y := .ls []) hat rfl (by omega)
        have hset : (fl ((relB s.rels b).map rlsT)).set (b * 6 + 5) (.tr (.ls [])) = fl ((relB s.rels (b + 1)).map rlsT) := by rw [hset, relB_succ hrb, List.map_set]
        generalize fl ((relB s.rels b).map rlsT) = RC at *
        refine Sq.indexS (j := ((a : Nat) : Int)) (len := q.length) tab_ok rfl (by omega) (by omega) ?_
        repeat' (first|refine zS ?_|refine zR ?_|refine zE tab_ok rfl rfl ?_|refine zN ?_|(refine zG rfl rfl (fun _ => ?_) fun _ => ?_)<;>refine zE tab_ok rfl rfl ?_|(refine zC rfl (fun _ => ?_) fun _ => ?_)<;>try (rename_i h; cases h; done)|refine zB ?_|refine zK ?_|refine zZ ⟨_, rfl, ?_⟩)
        refine Sq.loadS (v := .sl (.l 2001) s.rels.length capR) tab_ok rfl hW ?_
        refine zE tab_ok rfl rfl ?_
        refine Sq.indexS (j := ((b : Nat) : Int)) (len := s.rels.length) tab_ok rfl (by omega) (by omega) ?_
        repeat' (first|refine zS ?_|refine zR ?_|refine zE tab_ok rfl rfl ?_|refine zN ?_|(refine zG rfl rfl (fun _ => ?_) fun _ => ?_)<;>refine zE tab_ok rfl rfl ?_|(refine zC rfl (fun _ => ?_) fun _ => ?_)<;>try (rename_i h; cases h; done)|refine zB ?_|refine zK ?_|refine zZ ⟨_, rfl, ?_⟩)
        refine Sq.storeS tab_ok rfl (by show ((b : Nat) : Int).toNat * 6 + 5 < _; rw [List.length_append]; omega) ?_
        repeat' (first|refine zS ?_|refine zR ?_|refine zE tab_ok rfl rfl ?_|refine zN ?_|(refine zG rfl rfl (fun _ => ?_) fun _ => ?_)<;>refine zE tab_ok rfl rfl ?_|(refine zC rfl (fun _ => ?_) fun _ => ?_)<;>try (rename_i h; cases h; done)|refine zB ?_|refine zK ?_|refine zZ ⟨_, rfl, ?_⟩)
        exact ⟨b + 1, by omega, by omega, Sub.app (l := [_, _, _, _, _, _, _, _, _, _, _]) (H := []) ⟨rfl, rfl, rfl, rfl, rfl, rfl, rfl, rfl, by rw [← hset, ← set_app (by omega)]; rfl, rfl, congrArg some (wrapz (by omega) (by omega) (by omega)), trivial⟩ (fun κ v h => nomatch h)⟩
      · rename_i h3
        have hge : b = s.rels.length := by have := of_decide_eq_false h3; omega
        subst hge
        rw [relB_full]
        refine Tr.exit ?_
        refine Tr.turn (fun Γ a' w h => RelX.freezeC (κ0 := .l 2000) (κ := .l 2001) (off := a * 2 + 1) (len := s.rels.length) (cap := capR) (es := 6) (xs := (s.rels.map bareR).map rlsT) (cells := fl ((s.rels.map bareR).map rlsT) ++ List.replicate pr .unk) h rfl rfl (by rw [Int.toNat_natCast] at hW; exact hW) rfl rfl rfl (by rw [List.length_map, List.length_map]) (by rw [List.length_append, fl_len (es := 6) (by omega) (ag6 _), List.length_map, List.length_map]; omega) (ag6 _) (fl_hc (by omega) (ag6 _) _)) ?_
        rw [hWb, hnx]
        repeat' (first|refine zS ?_|refine zR ?_|refine zE tab_ok rfl rfl ?_|refine zN ?_|(refine zG rfl rfl (fun _ => ?_) fun _ => ?_)<;>refine zE tab_ok rfl rfl ?_|(refine zC rfl (fun _ => ?_) fun _ => ?_)<;>try (rename_i h; cases h; done)|refine zB ?_|refine zK ?_|refine zZ ⟨_, rfl, ?_⟩)
        exact ⟨a + 1, by omega, by omega, Sub.app (l := [_, _, _, _, _, _, _]) (H := []) ⟨rfl, rfl, rfl, rfl, rfl, rfl, congrArg some (wrapz (by omega) (by omega) (by omega)), trivial⟩ (fun κ v h => nomatch h)⟩
    · exfalso
      rename_i h3
      have := of_decide_eq_false h3
      omega
  have hge : a = q.length := by omega
  subst hge
  repeat' (first|refine zS ?_|refine zR ?_|refine zE tab_ok rfl rfl ?_|refine zN ?_|(refine zG rfl rfl (fun _ => ?_) fun _ => ?_)<;>refine zE tab_ok rfl rfl ?_|(refine zC rfl (fun _ => ?_) fun _ => ?_)<;>try (rename_i h; cases h; done)|refine zB ?_|refine zK ?_|refine zZ ⟨_, rfl, ?_⟩)
  · exfalso
    rename_i h3
    have := of_decide_eq_true h3
    omega
  rw [gB_full]
  refine Tr.exit ?_
  refine Tr.turn (fun Γ a' w h => RelX.freezeC (κ0 := .l 9) (κ := .l 2000) (off := 0) (len := q.length) (cap := cap) (es := 2) (xs := (bareC q).map svcT) (cells := fl ((bareC q).map svcT) ++ List.replicate pd .unk) h rfl rfl rfl rfl rfl rfl (by rw [List.length_map, hcB]) (by rw [List.length_append, fl_len (es := 2) (by omega) (ag2s _), List.length_map, hcB]; omega) (ag2s _) (fl_hc (by omega) (ag2s _) _)) ?_
  generalize bareC q = q at *
  clear hs hv hc hq hM hr1
  obtain ⟨cy, hcy⟩ := cycP_ex (stepsV q f t).length (befV q f t)
  have hM := Make_ok hok (by omega) hlvB f t cy hcy (by omega) (by omega)
  by_cases hz : endsV q f t ≠ 0
  · have hz' : makeZ q f t cy = endsV q f t := by unfold makeZ; rw [if_neg hz]
    have hP : makeP q f t cy = ⟨[], [], [], []⟩ := by unfold makeP; rw [if_neg (by rw [hz']; exact hz)]; rfl
    rw [hP, hz'] at hM
    repeat' (first|refine zS ?_|refine zR ?_|refine zE tab_ok rfl rfl ?_|refine zN ?_|(refine zG rfl rfl (fun _ => ?_) fun _ => ?_)<;>refine zE tab_ok rfl rfl ?_|(refine zC rfl (fun _ => ?_) fun _ => ?_)<;>try (rename_i h; cases h; done)|refine zB ?_|refine zK ?_|refine zZ ⟨_, rfl, ?_⟩)
    rcases bare_ends hlvB hB f t with h | h | h
    · exact absurd h hz
    · rw [h] at hM
      refine Sq.callv rfl (hM) ?_
      repeat' (first|refine zS ?_|refine zR ?_|refine zE tab_ok rfl rfl ?_|refine zN ?_|(refine zG rfl rfl (fun _ => ?_) fun _ => ?_)<;>refine zE tab_ok rfl rfl ?_|(refine zC rfl (fun _ => ?_) fun _ => ?_)<;>try (rename_i h; cases h; done)|refine zB ?_|refine zK ?_|refine zZ ⟨_, rfl, ?_⟩)
      rfl
    · rw [h] at hM
      refine Sq.callv rfl (hM) ?_
      repeat' (first|refine zS ?_|refine zR ?_|refine zE tab_ok rfl rfl ?_|refine zN ?_|(refine zG rfl rfl (fun _ => ?_) fun _ => ?_)<;>refine zE tab_ok rfl rfl ?_|(refine zC rfl (fun _ => ?_) fun _ => ?_)<;>try (rename_i h; cases h; done)|refine zB ?_|refine zK ?_|refine zZ ⟨_, rfl, ?_⟩)
      rfl
  have hz : endsV q f t = 0 := Classical.not_not.1 hz
  have E := ends0 hz
  have hcf : cy = false := by
    cases cy
    · rfl
    · exact absurd (hcy.1 rfl) (bare_cyc hB E)
  subst hcf
  have hz0 : makeZ q f t false = 0 := by unfold makeZ; rw [if_pos hz]; rfl
  have hP : makeP q f t false = ⟨f, t, stepsV q f t, befV q f t⟩ := by unfold makeP; rw [if_pos hz0]; rfl
  rw [hP, hz0] at hM
  obtain ⟨b1, b2⟩ := bef_bound (c := q) (t := t) (f := f) (by have := (rightV_at E.rf).1; omega)
  have hbe : ∀ p, p ∈ befV q f t → ∃ a b, (stepsV q f t)[p.1]? = some a ∧ (stepsV q f t)[p.2]? = some b ∧ a.s = b.s ∧ b.k = a.k + 1 := fun p hp => by
    obtain ⟨x, y, hx, hy, hxy⟩ := bef_mem.1 hp
    exact ⟨x, y, hx, hy, bare_ahead hB E (List.mem_of_getElem? hx) (List.mem_of_getElem? hy) hxy⟩
  have hct := bare_count hB E
  have hkl : ∀ x, x ∈ stepsV q f t → x.k ≤ 3 := fun x hx => by have := (stepsAt_mem (stepsUp_mem.1 hx).2).2; omega
  generalize stepsV q f t = l at *
  generalize befV q f t = b at *
  repeat' (first|refine zS ?_|refine zR ?_|refine zE tab_ok rfl rfl ?_|refine zN ?_|(refine zG rfl rfl (fun _ => ?_) fun _ => ?_)<;>refine zE tab_ok rfl rfl ?_|(refine zC rfl (fun _ => ?_) fun _ => ?_)<;>try (rename_i h; cases h; done)|refine zB ?_|refine zK ?_|refine zZ ⟨_, rfl, ?_⟩)
  refine Sq.callv rfl (hM) ?_
  repeat' (first|refine zS ?_|refine zR ?_|refine zE tab_ok rfl rfl ?_|refine zN ?_|(refine zG rfl rfl (fun _ => ?_) fun _ => ?_)<;>refine zE tab_ok rfl rfl ?_|(refine zC rfl (fun _ => ?_) fun _ => ?_)<;>try (rename_i h; cases h; done)|refine zB ?_|refine zK ?_|refine zZ ⟨_, rfl, ?_⟩)
  refine Tr.loopS (fun j : Nat => [(.s 12, .ptr (.l 12) 0), (.l 12, .blk 35 [.tr (.ls (f.map intT)), .tr (.ls (t.map intT)), .tr (.ls (l.map stpT)), .tr (.ls (b.map edT))]), (.s 14, int ((l.take j).filter fun a => a.k == 1).length), (.s 85, .tr (.ls (l.map stpT))), (.s 86, int (l.map stpT).length), (.s 87, int j)]) (fun j => l.length - j) (fun j => j ≤ l.length)
    0 (by omega) (Sub.app (l := [_, _, _, _, _, _]) (H := []) ⟨rfl, rfl, rfl, rfl, rfl, rfl, trivial⟩ (fun κ v h => nomatch h)) ?_
  rintro j hj
  repeat' (first|refine zS ?_|refine zR ?_|refine zE tab_ok rfl rfl ?_|refine zN ?_|(refine zG rfl rfl (fun _ => ?_) fun _ => ?_)<;>refine zE tab_ok rfl rfl ?_|(refine zC rfl (fun _ => ?_) fun _ => ?_)<;>try (rename_i h; cases h; done)|refine zB ?_|refine zK ?_|refine zZ ⟨_, rfl, ?_⟩)
  · rename_i h3
    have h3 : decide ((j : Int) < ((l.map stpT).length : Int)) = true := h3
    have hlt : j < l.length := by simp only [List.length_map, decide_eq_true_eq] at h3; omega
    obtain ⟨x, hx⟩ : ∃ x, l[j]? = some x := ⟨_, List.getElem?_eq_getElem hlt⟩
    have hxe : (l.map stpT)[((j : Nat) : Int).toNat]? = some (stpT x) := by simp [hx]
    have htk : l.take (j + 1) = l.take j ++ [x] := by rw [List.take_add_one, hx]; rfl
    have hfl : ((l.take j).filter fun a => a.k == 1).length ≤ 36 := Nat.le_trans (List.length_filter_le _ _) (by rw [List.length_take]; omega)
    have hfs : ((l.take (j + 1)).filter fun a => a.k == 1).length = ((l.take j).filter fun a => a.k == 1).length + if x.k = 1 then 1 else 0 := by
      rw [htk, List.filter_append, List.length_append, List.filter_cons]
      by_cases hk : x.k = 1
      · rw [if_pos (by simp [hk]), if_pos hk]; rfl
      · rw [if_neg (by simp [hk]), if_neg hk]; rfl
    refine zI (x := stpT x) tab_ok rfl (by omega) (hxe) rfl ?_
    repeat' (first|refine zS ?_|refine zR ?_|refine zE tab_ok rfl rfl ?_|refine zN ?_|(refine zG rfl rfl (fun _ => ?_) fun _ => ?_)<;>refine zE tab_ok rfl rfl ?_|(refine zC rfl (fun _ => ?_) fun _ => ?_)<;>try (rename_i h; cases h; done)|refine zB ?_|refine zK ?_|refine zZ ⟨_, rfl, ?_⟩)
    · rename_i h4
      have h4 : (((x.k : Nat) : Int) == 1) = true := h4
      rw [if_pos (by rw [beq_iff_eq] at h4; omega)] at hfs
      exact ⟨j + 1, by omega, by omega, Sub.app (l := [_, _, _, _, _, _]) (H := []) ⟨rfl, rfl, by rw [hfs]; exact congrArg some (wrapz (by omega) (by omega) (by omega)), rfl, rfl, congrArg some (wrapz (by omega) (by omega) (by omega)), trivial⟩ (fun κ v h => nomatch h)⟩
    · rename_i h4
      have h4 : (((x.k : Nat) : Int) == 1) = false := h4
      rw [if_neg (by rw [beq_eq_false_iff_ne] at h4; omega), Nat.add_zero] at hfs
      exact ⟨j + 1, by omega, by omega, Sub.app (l := [_, _, _, _, _, _]) (H := []) ⟨rfl, rfl, by rw [hfs]; rfl, rfl, rfl, congrArg some (wrapz (by omega) (by omega) (by omega)), trivial⟩ (fun κ v h => nomatch h)⟩
  rename_i h3
  have h3 : decide ((j : Int) < ((l.map stpT).length : Int)) = false := h3
  have hge : j = l.length := by simp only [List.length_map, decide_eq_false_iff_not] at h3; omega
  subst hge
  rw [List.take_of_length_le (Nat.le_refl _)]
  have hfl : (l.filter fun a => a.k == 1).length ≤ 36 := Nat.le_trans (List.length_filter_le _ _) (by omega)
  generalize (l.filter fun a => a.k == 1).length = three at *
  refine Tr.exit ?_
  repeat' (first|refine zS ?_|refine zR ?_|refine zE tab_ok rfl rfl ?_|refine zN ?_|(refine zG rfl rfl (fun _ => ?_) fun _ => ?_)<;>refine zE tab_ok rfl rfl ?_|(refine zC rfl (fun _ => ?_) fun _ => ?_)<;>try (rename_i h; cases h; done)|refine zB ?_|refine zK ?_|refine zZ ⟨_, rfl, ?_⟩)
  refine Tr.loopS (fun j : Nat => [(.s 12, .ptr (.l 12) 0), (.l 12, .blk 35 [.tr (.ls (f.map intT)), .tr (.ls (t.map intT)), .tr (.ls (l.map stpT)), .tr (.ls (b.map edT))]), (.s 14, int three), (.s 98, .tr (.ls (b.map edT))), (.s 99, int (b.map edT).length), (.s 100, int j)]) (fun j => b.length - j) (fun j => j ≤ b.length)
    0 (by omega) (Sub.app (l := [_, _, _, _, _, _]) (H := []) ⟨rfl, rfl, rfl, rfl, rfl, rfl, trivial⟩ (fun κ v h => nomatch h)) ?_
  rintro j hj
  repeat' (first|refine zS ?_|refine zR ?_|refine zE tab_ok rfl rfl ?_|refine zN ?_|(refine zG rfl rfl (fun _ => ?_) fun _ => ?_)<;>refine zE tab_ok rfl rfl ?_|(refine zC rfl (fun _ => ?_) fun _ => ?_)<;>try (rename_i h; cases h; done)|refine zB ?_|refine zK ?_|refine zZ ⟨_, rfl, ?_⟩)
  · rename_i h4
    have h4 : decide ((j : Int) < ((b.map edT).length : Int)) = true := h4
    have hlt : j < b.length := by simp only [List.length_map, decide_eq_true_eq] at h4; omega
    obtain ⟨p, hp⟩ : ∃ x, b[j]? = some x := ⟨_, List.getElem?_eq_getElem hlt⟩
    have hpe : (b.map edT)[((j : Nat) : Int).toNat]? = some (edT p) := by simp [hp]
    obtain ⟨x, y, hx, hy, hxs, hxk⟩ := hbe p (List.mem_of_getElem? hp)
    have hkx := hkl x (List.mem_of_getElem? hx)
    have hxe : (l.map stpT)[((p.1 : Nat) : Int).toNat]? = some (stpT x) := by simp [hx]
    have hye : (l.map stpT)[((p.2 : Nat) : Int).toNat]? = some (stpT y) := by simp [hy]
    obtain ⟨ys, yk⟩ := y
    simp only at hxs hxk
    subst hxs; subst hxk
    refine zI (x := edT p) tab_ok rfl (by omega) (hpe) rfl ?_
    repeat' (first|refine zS ?_|refine zR ?_|refine zE tab_ok rfl rfl ?_|refine zN ?_|(refine zG rfl rfl (fun _ => ?_) fun _ => ?_)<;>refine zE tab_ok rfl rfl ?_|(refine zC rfl (fun _ => ?_) fun _ => ?_)<;>try (rename_i h; cases h; done)|refine zB ?_|refine zK ?_|refine zZ ⟨_, rfl, ?_⟩)
    refine Tr.drawn ( zD tab_ok rfl rfl <| zD tab_ok rfl rfl <| zO rfl (fun q K hK => Sq.indexA (j := 0) (len := 2) tab_ok rfl (by omega) (by omega) (zN hK)) <| zD tab_ok rfl rfl <| zO rfl (fun q K hK => zI (x := stpT x) tab_ok rfl (by omega) (hxe) rfl (zN hK)) <| zD tab_ok rfl rfl <| zD tab_ok rfl rfl <| zD tab_ok rfl rfl <| zO rfl (fun q K hK => Sq.indexA (j := 1) (len := 2) tab_ok rfl (by omega) (by omega) (zN hK)) <| zD tab_ok rfl rfl <| zO rfl (fun q K hK => zI (x := stpT ⟨x.s, x.k + 1⟩) tab_ok rfl (by omega) (hye) rfl (zN hK)) <| zD tab_ok rfl rfl <| zD tab_ok rfl rfl <| zD tab_ok rfl rfl <| zD tab_ok rfl rfl <| zD tab_ok rfl rfl <| DSq.nil _) mix_ok rfl ?_
    repeat' (first|refine zS ?_|refine zR ?_|refine zE tab_ok rfl rfl ?_|refine zN ?_|(refine zG rfl rfl (fun _ => ?_) fun _ => ?_)<;>refine zE tab_ok rfl rfl ?_|(refine zC rfl (fun _ => ?_) fun _ => ?_)<;>try (rename_i h; cases h; done)|refine zB ?_|refine zK ?_|refine zZ ⟨_, rfl, ?_⟩)
    · exfalso
      rename_i h _
      have h : (((x.s : Nat) : Int) != ((x.s : Nat) : Int)) = true := h
      simp at h
    · exfalso
      rename_i h1 h
      have h : (IntKind.i64.wrap (((x.k : Nat) : Int) + 1) != ((x.k + 1 : Nat) : Int)) = true := h
      rw [Go.IntWalk.i64_in _ ⟨by omega, by omega⟩] at h
      simp at h
    exact ⟨j + 1, by omega, by omega, Sub.app (l := [_, _, _, _, _, _]) (H := []) ⟨rfl, rfl, rfl, rfl, rfl, congrArg some (wrapz (by omega) (by omega) (by omega)), trivial⟩ (fun κ v h => nomatch h)⟩
  rename_i h4
  have h4 : decide ((j : Int) < ((b.map edT).length : Int)) = false := h4
  refine Tr.exit ?_
  repeat' (first|refine zS ?_|refine zR ?_|refine zE tab_ok rfl rfl ?_|refine zN ?_|(refine zG rfl rfl (fun _ => ?_) fun _ => ?_)<;>refine zE tab_ok rfl rfl ?_|(refine zC rfl (fun _ => ?_) fun _ => ?_)<;>try (rename_i h; cases h; done)|refine zB ?_|refine zK ?_|refine zZ ⟨_, rfl, ?_⟩)
  show bool ((((b.map edT).length : Nat) : Int) == IntKind.i64.wrap (2 * (three : Int))) = bool true
  rw [Go.IntWalk.i64_in _ ⟨by omega, by omega⟩, List.length_map, hct]
  congr 1
  simp
end Go.Lg.Tryz

set_option linter.unusedSimpArgs false
set_option linter.unusedVariables false
namespace Go.Lg.Tryz
open Go Go.Proofs Go.Proofs.YtikjlooifdgbaaaGreatDoor Go.ChangeShapes Go.WideShapes Go.ChangeAt Go.RowKit Go.Joins Go.Lg.Sem
def theLaid : List (String × DataW Unit) := Rows.planMakesRow.laid
theorem own : ownKnob Tryz.prog.godebug = none := by kernel_rfl
theorem laidOut : laidOutB Tryz.prog = true := by kernel_rfl
def firstCells : Array Value := match Go.Pinned.utf8First with
  | .agg l => (l.map fun | .lit (.int k n) => Value.int k n | _ => undef).toArray
  | _ => #[]
noncomputable def laidWorld (os : Os) : World :=
  let w0 := World.doorLaid Tryz.prog 72 os
  { w0 with heap := w0.heap.modify 2 fun
      | .cells _ t frozen => .cells firstCells t frozen
      | o => o }
set_option maxRecDepth 100000 in
theorem laidWorld_met (os : Os) (args : Array Value) : laidMetH Tryz.prog theLaid ((laidWorld os).forCall (fun _ _ => 0) ⟨#[], args, []⟩).memory :=
  laidMetH_of_parts3 (fuel := 8) (laidMet_of_run' 8 (by kernel_rfl) (by kernel_rfl)) (by kernel_rfl) (by kernel_rfl)
set_option maxRecDepth 100000 in
theorem laidWorld_shaped (os : Os) (args : Array Value) : ((laidWorld os).forCall (fun _ _ => 0) ⟨#[], args, []⟩).Shaped Tryz.prog :=
  World.shaped_of_RefB (by kernel_rfl) (by kernel_rfl)
theorem gw_of {W : World} (hs : W.ShapedOpen Tryz.prog) (h : laidMetH Tryz.prog theLaid W) : Gw W := by
  rw [MakeChecks.laidMetH_plain _ _ _ (by kernel_rfl)] at h
  have h2 : laidMet Tryz.prog (("internal/strconv.uint64pow10", Lib.tabData .u64 Lib.pow10Tab) :: theLaid.drop 3) W := h.tail.tail
  have ht := Lib.tabIs_of_head tab_at (t := 278) (e := 48) (n := 20) (by kernel_rfl) Tryz.underlying278 Tryz.underlying48 (by kernel_rfl) (by kernel_rfl) h2
  obtain ⟨m, hm⟩ := cell_of_shapedOpen_int (g := 4) (zero := #[.int .i64 0]) (t := 3) hs (of_decide_eq_true (by kernel_rfl)) (by kernel_rfl) rfl (by kernel_rfl) (by kernel_rfl) Tryz.underlying3
  have hbig : 8 ≤ W.heap.size := by
    have := ht
    unfold Lib.TabIs World.var? at this
    rw [tab_at, Option.bind_some] at this
    cases hb : W.heap[7]? with
    | none => rw [hb] at this; cases this
    | some o => have := (Array.getElem?_eq_some_iff.1 hb).1; omega
  have h3 : laidMet Tryz.prog (("math/bits.deBruijn64tab", Lib.tabData .u8 (Lib.deBruijn64tab.map Int.ofNat)) :: theLaid.drop 2) W := h.tail
  have hd := Lib.tabIs_of_head (g := 0) (t := 186) (e := 5) (n := 64) (by kernel_rfl) (by kernel_rfl) Tryz.underlying186 Tryz.underlying5 (by kernel_rfl) (by kernel_rfl) h3
  exact ⟨⟨m, hm⟩, ht, hbig, fun j hj => by
    have h4 := hd.cell (g := 0) (by kernel_rfl) j (by rw [List.length_map]; exact hj)
    rw [h4]
    congr 2
    simp only [List.getD_eq_getElem?_getD, List.getElem?_map, List.getElem?_eq_getElem hj, Option.map_some, Option.getD_some]; rfl⟩
theorem returns_both {H : Type} {enc : TypeId × Value → H} {a : Assume} {C : Checked} {os : Os} {f : FuncId} {fn : Func} {s : ChangeSpec} {conds : List PathCond} {apart fresh handsOn again : Bool} {X : World → Array Value → Prop}
    (hX : ∀ (w w' : World) (args : Array Value), w.heap = w'.heap → X w args → X w' args)
    (own : ownKnob C.prog.godebug = none) (started : os.Started) (noInit : C.prog.inits.idxOf? f = none) (hfn : C.prog.funcs[f]? = some fn)
    (witness : ∃ (w : World) (tape : Tape) (i : Input), w.os = os ∧ (w.forCall tape i).Shaped C.prog ∧ i.vars = [] ∧ Input.okWide C.prog (w.forCall tape i) .any w.heap.size f i ∧
      ((s.pre enc C.prog fn conds apart (w.forCall tape i).memory i.args ∧ X (w.forCall tape i).memory i.args) ∧ sizedMet enc C.prog fn (OpenSpec.ofChange s) apart (w.forCall tape i).memory i.args) ∧ a.holds C.prog (lone (Frame.enter C.prog f i.args .normal) [] (w.forCall tape i)))
    (contract : ∀ (W : World) (base : Nat) (args : Array Value) (ds gs : List (DataW H)) (before : List MemPlace),
      (∀ (j : Nat) t v, fn.params[j]? = some t → args[j]? = some v → Value.okWide C.prog W .any base t v) →
      DataW.Whole enc C.prog fn.params.toList s.vars apart W args.toList ds gs before →
      (DataW.weightsEach C.prog (fn.params.toList ++ s.plain.varTypes C.prog) (ds ++ gs)).all (· ≤ reachBytes) = true → X W args → W.ShapedOpen C.prog →
      Calls C.prog f args W fun e W' => ∃ v, e = .returned v ∧ s.post enc C.prog fn apart fresh handsOn again W args v W') :
    ReturnsInHanded a C os f .any (fun w args => (s.pre enc C.prog fn conds apart w args ∧ X w args) ∧ sizedMet enc C.prog fn (OpenSpec.ofChange s) apart w args) (s.post enc C.prog fn apart fresh handsOn again) := by
  refine returnsInHanded_of_calls own started noInit witness ?_
  intro w tape i _ hsh _ hok hpre hholds
  obtain ⟨_, _, _, fn', hfn', _, _, _, _, hval⟩ := hok
  obtain rfl := Option.some.inj (hfn'.symm.trans hfn)
  obtain ⟨⟨⟨ds, gs, before, hw, hc⟩, hx⟩, hz⟩ := hpre
  have hw' := DataW.Whole.of_heap (w' := w.forCall tape i) (by rfl) hw
  refine (contract (w.forCall tape i) w.heap.size i.args ds gs before hval hw' (hz.weights hw) (hX _ _ _ (by rfl) hx) hsh).mono fun e W' ⟨v, he, hp⟩ => ?_
  subst he
  exact ChangeSpec.post_blind hp
section
variable {H : Type} {enc : TypeId × Value → H} {W : World}
theorem stays {t : TypeId} (hr : (Tryz.prog).readableRec t = true) (hrow : t < (Tryz.prog).types.size) {W' : World} {v : Value} {d : DataW H} {p : List MemPlace} (h : DataW.Trod enc Tryz.prog W 0 (fun _ => true) true t v d p) (hb : Below W.heap.size W W') (hlt : ∀ x ∈ p, x.block < W.heap.size) :
    DataW.Trod enc Tryz.prog W' 0 (fun b => decide (b < W.heap.size)) true t v d p := hb.trod laidOut hr hrow h hlt
theorem opens_ver : Opens enc Tryz.prog W 58 (fun v : Ver => [.sc (.int .i64 v.a), .sc (.int .i64 v.b), .sc (.int .i64 v.c), .sc (.string v.p)]) :=
  (opens_struct Tryz.underlying58 (by kernel_rfl) (OpensF.cons rfl (k := 1) (by kernel_rfl) (opens_int Tryz.underlying3) (OpensF.cons rfl (k := 1) (by kernel_rfl) (opens_int Tryz.underlying3) (OpensF.cons rfl (k := 1) (by kernel_rfl) (opens_int Tryz.underlying3)
    (OpensF.cons rfl (k := 1) (by kernel_rfl) (opens_string Tryz.underlying9) OpensF.nil))))).map (fun p : Int × Int × Int × ByteArray × Unit => ⟨p.1, p.2.1, p.2.2.1, p.2.2.2.1⟩) (fun p => rfl)
theorem opens_comp : Opens enc Tryz.prog W 99 (fun c : Cmp => [.sc (.int .i64 c.op), .sc (.int .i64 c.v.a), .sc (.int .i64 c.v.b), .sc (.int .i64 c.v.c), .sc (.string c.v.p)]) :=
  (opens_struct Tryz.underlying99 (by kernel_rfl) (OpensF.cons rfl (k := 1) (by kernel_rfl) (opens_int Tryz.underlying3) (OpensF.cons rfl (k := 4) (by kernel_rfl) opens_ver OpensF.nil))).map (fun p : Int × Ver × Unit => ⟨p.1, p.2.1⟩) (fun p => rfl)
noncomputable instance : Inhabited Cmp := ⟨Cmp.zero⟩
theorem opens_comps : Opens enc Tryz.prog W 100 (fun l : List Cmp => [cmpsT l]) :=
  opens_slice Cmp.t (fun c => rfl) Tryz.underlying100 (fun c => by rw [show (Tryz.prog).cellsOf 99 = 5 by kernel_rfl]; rfl) (by rw [show (Tryz.prog).cellsOf 99 = 5 by kernel_rfl]; omega) opens_comp
theorem opens_rng : Opens enc Tryz.prog W 103 (fun r : Rng => [.ls (r.map cmpsT)]) :=
  (opens_struct Tryz.underlying103 (by kernel_rfl) (OpensF.cons rfl (k := 1) (by kernel_rfl) (opens_slice cmpsT (fun l => rfl) Tryz.underlying101 (fun c => by rw [show (Tryz.prog).cellsOf 100 = 1 by kernel_rfl]; rfl) (by rw [show (Tryz.prog).cellsOf 100 = 1 by kernel_rfl]; omega) opens_comps) OpensF.nil)).map
    (fun p : Rng × Unit => p.1) (fun p => rfl)
end
end Go.Lg.Tryz

set_option linter.unusedSimpArgs false
set_option linter.unusedVariables false
namespace Go.Lg.Tryz
open Go Go.Proofs Go.Proofs.YtikjlooifdgbaaaGreatDoor Go.ChangeShapes Go.WideShapes Go.ChangeAt Go.RowKit Go.Joins Go.Lg.Sem
section
variable {H : Type} {enc : TypeId × Value → H} {W : World}
noncomputable instance : Inhabited Nd := ⟨⟨0, []⟩⟩
noncomputable instance : Inhabited Rls := ⟨⟨Cmp.zero.v, 0, []⟩⟩
noncomputable instance : Inhabited Svc := ⟨⟨ByteArray.empty, []⟩⟩
theorem opens_nd : Opens enc Tryz.prog W 105 (fun n : Nd => [.sc (.int .i64 n.s), .ls (n.r.map cmpsT)]) :=
  (opens_struct Tryz.underlying105 (by kernel_rfl) (OpensF.cons rfl (k := 1) (by kernel_rfl) (opens_int Tryz.underlying3) (OpensF.cons rfl (k := 1) (by kernel_rfl) opens_rng OpensF.nil))).map (fun p : Int × Rng × Unit => ⟨p.1, p.2.1⟩) (fun p => rfl)
theorem opens_nds : Opens enc Tryz.prog W 59 (fun l : List Nd => [.ls (l.map ndT)]) :=
  opens_slice ndT (fun c => rfl) Tryz.underlying59 (fun c => by rw [show (Tryz.prog).cellsOf 105 = 2 by kernel_rfl]; rfl) (by rw [show (Tryz.prog).cellsOf 105 = 2 by kernel_rfl]; omega) opens_nd
theorem opens_rls : Opens enc Tryz.prog W 61 (fun r : Rls => [.sc (.int .i64 r.v.a), .sc (.int .i64 r.v.b), .sc (.int .i64 r.v.c), .sc (.string r.v.p), .sc (.int .i64 r.level), .ls (r.needs.map ndT)]) :=
  (opens_struct Tryz.underlying61 (by kernel_rfl) (OpensF.cons rfl (k := 4) (by kernel_rfl) opens_ver (OpensF.cons rfl (k := 1) (by kernel_rfl) (opens_int Tryz.underlying3) (OpensF.cons rfl (k := 1) (by kernel_rfl) opens_nds OpensF.nil)))).map (fun p : Ver × Int × List Nd × Unit => ⟨p.1, p.2.1, p.2.2.1⟩) (fun p => rfl)
theorem opens_rlss : Opens enc Tryz.prog W 62 (fun l : List Rls => [.ls (l.map rlsT)]) :=
  opens_slice rlsT (fun c => rfl) Tryz.underlying62 (fun c => by rw [show (Tryz.prog).cellsOf 61 = 6 by kernel_rfl]; rfl) (by rw [show (Tryz.prog).cellsOf 61 = 6 by kernel_rfl]; omega) opens_rls
theorem opens_svc : Opens enc Tryz.prog W 64 (fun s : Svc => [.sc (.string s.name), .ls (s.rels.map rlsT)]) :=
  (opens_struct Tryz.underlying64 (by kernel_rfl) (OpensF.cons rfl (k := 1) (by kernel_rfl) (opens_string Tryz.underlying9) (OpensF.cons rfl (k := 1) (by kernel_rfl) opens_rlss OpensF.nil))).map (fun p : ByteArray × List Rls × Unit => ⟨p.1, p.2.1⟩) (fun p => rfl)
theorem opens_cat : Opens enc Tryz.prog W 24 (fun c : Ctl => [.ls (c.map svcT)]) :=
  (opens_struct Tryz.underlying24 (by kernel_rfl) (OpensF.cons rfl (k := 1) (by kernel_rfl) (opens_slice svcT (fun c => rfl) Tryz.underlying22 (fun c => by rw [show (Tryz.prog).cellsOf 64 = 2 by kernel_rfl]; rfl) (by rw [show (Tryz.prog).cellsOf 64 = 2 by kernel_rfl]; omega) opens_svc) OpensF.nil)).map (fun p : Ctl × Unit => p.1) (fun p => rfl)
theorem opens_ints : Opens enc Tryz.prog W 25 (fun l : List Int => [.ls (l.map fun v => .sc (.int .i64 v))]) :=
  opens_slice (fun v : Int => T.sc (.int .i64 v)) (fun c => rfl) Tryz.underlying25 (fun c => by rw [show (Tryz.prog).cellsOf 3 = 1 by kernel_rfl]; rfl) (by rw [show (Tryz.prog).cellsOf 3 = 1 by kernel_rfl]; omega) (opens_int Tryz.underlying3)
end
end Go.Lg.Tryz
