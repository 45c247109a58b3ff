/- A law for a range over strings.SplitSeq: the iterator's pieces are a list that is known, the iterator writes one box of its own, the body keeps whatever lies from a place on. The library's functions that the program calls, as functions of plain data, with their contracts out of the shelf; the world's premise. Short names for the steps that the printed walks repeat. semver.mark, walked by hand: which texts are marks. semver.number and semver.mark as functions of lists of bytes. strings.SplitSeq at a separator that isn't empty: the pieces come one by one. semver.pre: the pieces between points are at most four marks. semver.Parse: what it answers at any text that isn't huge. cmp.Compare at strings. semver.marks: two Pres held against one another. strings.HasPrefix and strings.Join, as the print asks for them. -/
import Derived.RangeFuncNested
import Derived.RangeFuncBound
import Derived.RangeFuncCalls
import Derived.RangeFuncLeaves
import Derived.RangeFuncFrom
import Derived.Below
import Derived.Deep.Draws
import Derived.Test.YtckeeefeiljamaaGreatDoorSh
import Derived.Test.YtckeeefeiljamaaGreatDoorV1
import Derived.Shelf.Strings.SlTrimAscii
import Derived.Lib.ConvBytes
import Derived.Lib.SplitLaws
import Derived.WalkSmall
import Derived.Test.YtckeeefeiljamaaGreatDoorProg
import Derived.Deep.AppendLies
import Derived.Maps.AppendAt
import Derived.OwnWalk
import Derived.Laws.BytesArg
import Derived.Laws.MakeOwn
import Derived.Laws.OwnMore
import Derived.Deep.OwnRows
import Derived.Tactics
import Derived.Laws.Slices
import Derived.WalkKit
import Derived.KernelRfl
import Derived.RowKit3
import Derived.Deep.LoopGhost
import Derived.Deep.QuietTactic
import Derived.BigQuiet
import Derived.WideLaws
import Derived.Deep.DeepCutAuto
import Derived.Deep.CutBlock
import Derived.Deep.RegionHeld3
import Derived.Laws.Rows
import Derived.Lib.AppendStr
import Derived.ArgAppend
import Derived.Laws.IdiomCopy
import Derived.OrdersHeld
import Derived.Laws.BitsLemmas
import Derived.RowKit
import Derived.Lib.Hide
import Derived.Shelf.Abstract
import Derived.Shelf.RegionOpen
import Derived.OwnWalkIn
import Derived.TacticsInMore
import Derived.LoopNIn
import Derived.LoopIn
import Derived.Lib.CutLaws
import Derived.OneCell
import Derived.RangeFuncBox
import Derived.WalkLawsBesides
namespace Go.Proofs.Cuts
open Go Go.RowKit

/-- What lies ahead of block L, the iterator's three boxes from B on, and whatever is no cells lies as it lay. -/
structure Keeps (L B : Nat) (W W' : World) : Prop where
  size : W.heap.size ≤ W'.heap.size
  block : ∀ r, (r < L ∨ (B ≤ r ∧ r < B + 3) ∨ ∃ o, W.heap[r]? = some o ∧ o.isCells = false) → r < W.heap.size → W'.heap[r]? = W.heap[r]?
theorem Keeps.refl (L B : Nat) (W : World) : Keeps L B W W := ⟨Nat.le_refl _, fun _ _ _ => rfl⟩
theorem Keeps.trans {L B : Nat} {A W C : World} (h : Keeps L B A W) (k : Keeps L B W C) : Keeps L B A C :=
  ⟨Nat.le_trans h.size k.size, fun r hb hr => (k.block r (hb.imp id (Or.imp id (fun ⟨o, ho, hc⟩ => ⟨o, (h.block r (.inr (.inr ⟨o, ho, hc⟩)) hr).trans ho, hc⟩))) (Nat.lt_of_lt_of_le hr h.size)).trans (h.block r hb hr)⟩
theorem Keeps.below {L B : Nat} {A W : World} (h : Below A.heap.size A W) : Keeps L B A W := ⟨h.size, fun r _ hr => h.block r hr⟩
theorem Keeps.alloc (L B : Nat) (W : World) (o : Obj) : Keeps L B W (W.alloc o) := Keeps.below ((Below.refl _ W).alloc (Nat.le_refl _) o)
theorem setCell_other {W : World} {p : Addr} {v : Value} {r : Nat} {o : Obj} (h : W.heap[r]? = some o) (hc : o.isCells = false) : (W.setCell p v).heap[r]? = W.heap[r]? := by
  by_cases e : r = p.block
  · subst e
    simp only [World.setCell, Array.getElem?_modify, h]
    cases o <;> first | rfl | (simp [Obj.isCells] at hc; done) | (cases hc; done) | (simp; done)
  · exact Below.heap_setCell W p v r e
theorem Keeps.setCell {L B : Nat} (W : World) (p : Addr) (v : Value) (hl : L ≤ p.block) (h : p.block < B ∨ B + 3 ≤ p.block) : Keeps L B W (W.setCell p v) :=
  ⟨by simp, fun r hb _ => by
    rcases hb with hb | hb | ⟨o, ho, hc⟩
    · exact Below.heap_setCell W p v r (by omega)
    · exact Below.heap_setCell W p v r (by omega)
    · exact setCell_other ho hc⟩
theorem Keeps.drewN (L B : Nat) (W : World) (n : Nat) : Keeps L B W (W.drewN n) := ⟨Nat.le_refl _, fun _ _ _ => rfl⟩
/-- One row of cells, none of the iterator's, has been written. -/
theorem Keeps.grown {L B : Nat} {W W' : World} {row : Option Nat} (h : W.grownBy W' row) (hr : ∀ r, row = some r → L ≤ r ∧ (r < B ∨ B + 3 ≤ r) ∧ ∃ o, W.heap[r]? = some o ∧ o.isCells = true) : Keeps L B W W' :=
  ⟨h.size, fun r hb hlt => h.block r hlt (fun e => by
    obtain ⟨h1, h2, o, ho, hc⟩ := hr r e.symm
    rcases hb with hb | hb | ⟨o', ho', hc'⟩
    · omega
    · omega
    · rw [ho] at ho'; cases ho'; rw [hc] at hc'; cases hc')⟩
theorem Keeps.cell {L B : Nat} {W W' : World} (h : Keeps L B W W') {p : Addr} {v : Value} (hb : p.block < L ∨ (B ≤ p.block ∧ p.block < B + 3)) (hc : W.cell? p = some v) : W'.cell? p = some v := by
  have hlt := World.block_lt_of_cell? W p hc
  unfold World.cell? at hc ⊢
  rw [h.block _ (hb.imp id .inl) hlt]; exact hc

/-- What an invariant abides: new blocks, the box's turn, a turn of what is no cells from E on. -/
def Harm (b E : Nat) (W W' : World) : Prop := ∃ row, W.grownBy W' row ∧ ∀ r, row = some r → r = b ∨ (E ≤ r ∧ ∃ o, W.heap[r]? = some o ∧ o.isCells = false)
def Hold (b E : Nat) (I : Nat → World → Prop) : Prop := ∀ k W W', I k W → Harm b E W W' → I k W'
def HoldB (b : Nat) (I : Nat → World → Prop) : Prop := ∀ k W W', I k W → W.grownBy W' (some b) → I k W'
theorem Hold.and {b E : Nat} {I I' : Nat → World → Prop} (h : Hold b E I) (h' : Hold b E I') : Hold b E (fun k W => I k W ∧ I' k W) :=
  fun k W W' hs hg => ⟨h k W W' hs.1 hg, h' k W W' hs.2 hg⟩
theorem Hold.pure (b E : Nat) (p : Nat → Prop) : Hold b E (fun k _ => p k) := fun _ _ _ h _ => h
theorem grownBy_put (W : World) (l : Nat) (o : Obj) : W.grownBy (W.putObj l o) (some l) := grownBy_putObj' W l o
theorem Hold.put {b E : Nat} {I : Nat → World → Prop} (h : Hold b E I) {k : Nat} {W : World} {l : Nat} {o : Obj} (o' : Obj) (hi : I k W) (he : E ≤ l) (hl : W.heap[l]? = some o) (hc : o.isCells = false) : I k (W.putObj l o') :=
  h k W _ hi ⟨some l, grownBy_put W l o', fun r e => .inr (by cases e; exact ⟨he, o, hl, hc⟩)⟩
theorem Hold.new {b E : Nat} {I : Nat → World → Prop} (h : Hold b E I) {k : Nat} {W : World} (o : Obj) (hi : I k W) : I k (W.alloc o) :=
  h k W _ hi ⟨none, ((Below.refl _ W).alloc (Nat.le_refl _) o) |> fun hb => ⟨hb.os, hb.tape, hb.output, hb.size, fun i hi _ => hb.block i hi⟩, fun r e => by cases e⟩

def cutPost (L B : Nat) (I : Nat → World → Prop) (Ix : Code → Nat → World → Prop) (k : Nat) (W : World) : Exit → Act → World → Prop
  | .normal, _, W' => Keeps L B W W' ∧ I (k + 1) W'
  | .ret, _, W' => Keeps L B W W' ∧ Ix .ret (k + 1) W'
  | .exit id, _, W' => Keeps L B W W' ∧ Ix (.exit id) (k + 1) W'
  | .goto t, _, W' => Keeps L B W W' ∧ Ix (.goto t) (k + 1) W'
  | .panic _, _, _ => False
  | .outgrown, _, _ => False

/-- The iterator's contract: for whatever rounds. -/
def Iter (F : Fence) (n : Nat) (P : Program) (gf : Nat) (lb : Array Value) (L B : Nat) (xs : List Value) (w : World) : Prop :=
  ∀ (l : Nat) (J Jx : Nat → World → Prop) (W : World), Keeps L B w W → HoldB B J → HoldB B Jx →
    (∀ k W1 v, J k W1 → xs[k]? = some v → YieldAt F (n - 1) P l #[v] W1 fun e W' => (e = .returned (.bool true) ∧ J (k + 1) W' ∧ Keeps L B W1 W') ∨ (e = .returned (.bool false) ∧ Jx (k + 1) W')) →
    J 0 W →
    CallsIn F n P gf (#[.func (.yield l) #[] #[]] ++ lb) W fun e W' => (∃ v, e = .returned v) ∧ (J xs.length W' ∨ ∃ k, Jx k W')

variable {F : Fence} {n : Nat} {P : Program}
theorem range_cuts {g : Operand} {ps : Array Tmp} {assign body : Code} {Q : Exit → Act → World → Prop} {a : Act} {w : World}
    (hro : F.round = none) (h1 : 1 ≤ n) {gf : Nat} {lb : Array Value} (hg : a.eval g = .func (.func gf) #[] lb) (hFg : F.fn gf) (eg : ∀ args w, (callFunc gf args).run P w = .ok (.enter gf args) w)
    {L B : Nat} {xs : List Value} (hB : B < w.heap.size) (hseq : Iter F (n - 1) P gf lb L B xs w) (hps : ps.size = 1)
    (I : Nat → World → Prop) (Ix : Code → Nat → World → Prop) (hI : Hold B w.heap.size I) (hIx : ∀ c, Hold B w.heap.size (Ix c)) (h0 : I 0 w) (a₁ : Value → Act)
    (hassign : ∀ (l : Nat) (v : Value) (W : World) (K : Act → World → Prop), K (a₁ v) W →
      assign.wpIn (F.inRound l) (n - 1 - 1) P (Exit.then K (fun _ _ _ => False)) { tmps := (ps.zip #[v]).foldl (fun t (p, v) => t.setIfInBounds p v) a.tmps, defers := [] } W)
    (hbody : ∀ (l k : Nat) (v : Value) (W : World), I k W → xs[k]? = some v → w.heap.size ≤ W.heap.size → w.heap.size ≤ l → (∃ r, W.heap[l]? = some (.loop r)) → body.wpIn (F.inRound l) (n - 1 - 1) P (cutPost L B I Ix k W) (a₁ v) W)
    (hdone : ∀ (D : Nat) (W : World), I xs.length W → W.heap[D]? = some (.deferred (some [])) → w.heap.size ≤ D → Q .normal { a with defers := { target := .collected D, args := #[] } :: a.defers } W)
    (hstop : ∀ (D : Nat) (c : Code) (k : Nat) (W : World), Ix c k W → W.heap[D]? = some (.deferred (some [])) → w.heap.size ≤ D → c.wpIn F n P Q { a with defers := { target := .collected D, args := #[] } :: a.defers } W) :
    (Code.rangeFunc g ps assign body).wpIn F n P Q a w := by
  refine wpIn_rangeFunc ?_
  intro fn hfn
  rw [hro]
  obtain ⟨rec, hrec⟩ : ∃ rec : LoopState → Option Code → Loop, rec = fun st pe => { state := st, pending := pe, fn, tmps := a.tmps, params := ps, assign, body, defers := w.heap.size } := ⟨_, rfl⟩
  obtain ⟨W1, hW1⟩ : ∃ W1, (w.alloc (.deferred (some []))).alloc (.loop (rec .ready none)) = W1 := ⟨_, rfl⟩
  have hz1 : W1.heap.size = w.heap.size + 2 := by rw [← hW1]; simp
  have hL1 : W1.heap[w.heap.size + 1]? = some (.loop (rec .ready none)) := by
    rw [← hW1]; have := World.alloc_heap_new (w.alloc (.deferred (some []))) (.loop (rec .ready none)); rwa [World.size_alloc] at this
  have hK1 : W1.heap[w.heap.size]? = some (.deferred (some [])) := by
    rw [← hW1]; exact (Below.heap_alloc _ _ _ (by simp)).trans (World.alloc_heap_new w _)
  have hI1 : I 0 W1 := by rw [← hW1]; exact hI.new _ (hI.new _ h0)
  have hk1 : Keeps L B w W1 := by rw [← hW1]; exact (Keeps.alloc _ _ _ _).trans (Keeps.alloc _ _ _ _)
  refine ⟨w.heap.size + 1, [{ target := .collected w.heap.size, args := #[] }], W1, { target := .fn (.func gf) lb, args := #[.func (.yield (w.heap.size + 1)) #[] #[]] }, W1, gf,
    #[.func (.yield (w.heap.size + 1)) #[] #[]] ++ lb, W1, ?_, ?_, ?_, ?_, fun _ => h1, ?_⟩
  · rw [← hW1, hrec]; exact run_enterLoop_outer _ _ _ _ _
  · simp only [resolve, hg]
    simp [go_sem]
  · intro f' hf'; simp [Target.leads] at hf'; subst hf'; exact hFg
  · simp [invoke, go_sem, eg]
  · -- the invariant with the loop's two blocks beside it
    have hgb : ∀ {W W' : World}, W.grownBy W' (some B) → Harm B w.heap.size W W' := fun h => ⟨some B, h, fun r e => .inl (by cases e; rfl)⟩
    have hst : ∀ {W W' : World} {r : Nat} {o : Obj}, W.grownBy W' (some B) → w.heap.size ≤ r → W.heap[r]? = some o → W'.heap[r]? = some o :=
      fun {W W' r o} h hr hl => (h.block r (Array.getElem?_eq_some_iff.1 hl).1 (by intro e; cases e; omega)).trans hl
    refine (hseq (w.heap.size + 1)
      (fun k W => I k W ∧ W.heap[w.heap.size + 1]? = some (.loop (rec .ready none)) ∧ W.heap[w.heap.size]? = some (.deferred (some [])))
      (fun k W => ∃ c, Ix c k W ∧ W.heap[w.heap.size + 1]? = some (.loop (rec .done (some c))) ∧ W.heap[w.heap.size]? = some (.deferred (some [])))
      W1 hk1
      (fun k A C hs hg' => ⟨hI k A C hs.1 (hgb hg'), hst hg' (by omega) hs.2.1, hst hg' (Nat.le_refl _) hs.2.2⟩)
      (fun k A C hs hg' => by
        obtain ⟨c, hc, hl, hk⟩ := hs
        exact ⟨c, hIx c k A C hc (hgb hg'), hst hg' (by omega) hl, hst hg' (Nat.le_refl _) hk⟩)
      ?_ ⟨hI1, hL1, hK1⟩).mono ?_
    · -- one round
      rintro k W v ⟨hi, hl, hk⟩ hv
      have hlt : w.heap.size + 1 < W.heap.size := (Array.getElem?_eq_some_iff.1 hl).1
      have hy := run_yield (P := P) (args := #[v]) hl (by rw [hrec]; exact hps.symm)
      rw [hrec] at hy
      refine ⟨fn, _, assign, body, hy, roundIn_of_wpIn hfn (hassign _ v W _ ⟨_, run_beginRound hl (by rw [hrec]), ?_⟩)⟩
      have hl2 : (W.putObj (w.heap.size + 1) (.loop { rec .ready none with state := .busy })).heap[w.heap.size + 1]? = some (.loop { rec .ready none with state := .busy }) := World.putObj_heap_same hlt
      have hk2 : (W.putObj (w.heap.size + 1) (.loop { rec .ready none with state := .busy })).heap[w.heap.size]? = some (.deferred (some [])) := (World.putObj_heap_other (by omega)).trans hk
      have hz2 : (W.putObj (w.heap.size + 1) (.loop { rec .ready none with state := .busy })).heap.size = W.heap.size := World.putObj_size
      have hi2 := hI.put (.loop { rec .ready none with state := .busy }) hi (Nat.le_succ _) hl rfl
      refine wpIn_mono (hbody _ k v _ hi2 hv (by rw [hz2]; omega) (by omega) ⟨_, hl2⟩) ?_
      have fin : ∀ (jump : Option Code) (W3 : World), Keeps L B (W.putObj (w.heap.size + 1) (.loop { rec .ready none with state := .busy })) W3 →
          (Instr.endRound (w.heap.size + 1) jump).run P W3 = .ok (.bool jump.isNone) (W3.putObj (w.heap.size + 1) (.loop (rec (if jump.isNone then .ready else .done) jump))) ∧
          W3.heap[w.heap.size + 1]? = some (.loop { rec .ready none with state := .busy }) ∧
          (W3.putObj (w.heap.size + 1) (.loop (rec (if jump.isNone then .ready else .done) jump))).heap[w.heap.size + 1]? = some (.loop (rec (if jump.isNone then .ready else .done) jump)) ∧
          (W3.putObj (w.heap.size + 1) (.loop (rec (if jump.isNone then .ready else .done) jump))).heap[w.heap.size]? = some (.deferred (some [])) := fun jump W3 hk3 => by
        have hl3 := (hk3.block _ (.inr (.inr ⟨_, hl2, rfl⟩)) (by rw [hz2]; omega)).trans hl2
        have hd3 := (hk3.block _ (.inr (.inr ⟨_, hk2, rfl⟩)) (by rw [hz2]; omega)).trans hk2
        have := run_endRound (P := P) jump hl3
        rw [hrec] at this ⊢
        exact ⟨this, by rw [hrec] at hl3; exact hl3, World.putObj_heap_same (Array.getElem?_eq_some_iff.1 hl3).1, (World.putObj_heap_other (by omega)).trans hd3⟩
      have keep : ∀ (W3 : World) (o : Obj), Keeps L B (W.putObj (w.heap.size + 1) (.loop { rec .ready none with state := .busy })) W3 →
          o = .loop (rec .ready none) → Keeps L B W (W3.putObj (w.heap.size + 1) o) := fun W3 o hk3 ho => by
        refine ⟨by rw [World.putObj_size]; have := hk3.size; rw [hz2] at this; exact this, fun r hb hr => ?_⟩
        by_cases e : r = w.heap.size + 1
        · subst e; rw [World.putObj_heap_same (Nat.lt_of_lt_of_le hlt (by have := hk3.size; rw [hz2] at this; exact this)), ho]; exact hl.symm
        · rw [World.putObj_heap_other e, hk3.block r (by rwa [World.putObj_heap_other e]) (by rw [hz2]; exact hr), World.putObj_heap_other e]
      rintro e a3 W3 hp
      cases e with
      | normal =>
        obtain ⟨hk3, hi3⟩ := hp
        obtain ⟨hr, hl3, hl4, hk4⟩ := fin none W3 hk3
        exact ⟨_, _, hr, .inl ⟨rfl, ⟨hI.put _ hi3 (Nat.le_succ _) hl3 rfl, hl4, hk4⟩, keep W3 _ hk3 (by simp)⟩⟩
      | ret =>
        obtain ⟨hk3, hi3⟩ := hp
        obtain ⟨hr, hl3, hl4, hk4⟩ := fin (some .ret) W3 hk3
        exact ⟨_, _, hr, .inr ⟨rfl, .ret, (hIx _).put _ hi3 (Nat.le_succ _) hl3 rfl, hl4, hk4⟩⟩
      | exit id =>
        obtain ⟨hk3, hi3⟩ := hp
        obtain ⟨hr, hl3, hl4, hk4⟩ := fin (some (.exit id)) W3 hk3
        exact ⟨_, _, hr, .inr ⟨rfl, .exit id, (hIx _).put _ hi3 (Nat.le_succ _) hl3 rfl, hl4, hk4⟩⟩
      | goto t =>
        obtain ⟨hk3, hi3⟩ := hp
        obtain ⟨hr, hl3, hl4, hk4⟩ := fin (some (.goto t)) W3 hk3
        exact ⟨_, _, hr, .inr ⟨rfl, .goto t, (hIx _).put _ hi3 (Nat.le_succ _) hl3 rfl, hl4, hk4⟩⟩
      | panic ch => exact hp.elim
      | outgrown => exact hp.elim
    · -- behind the iterator
      rintro e W2 ⟨⟨v, rfl⟩, (⟨hi, hl, hk⟩ | ⟨k, c, hi, hl, hk⟩)⟩
      · exact ⟨none, _, by have := run_endLoop (P := P) hl (by rw [hrec]; simp); rw [hrec] at this; exact this, hdone _ _ (hI.put _ hi (Nat.le_succ _) hl rfl) ((World.putObj_heap_other (by omega)).trans hk) (Nat.le_refl _)⟩
      · exact ⟨some c, _, by have := run_endLoop (P := P) hl (by rw [hrec]; simp); rw [hrec] at this; exact this, hstop _ c k _ ((hIx c).put _ hi (Nat.le_succ _) hl rfl) ((World.putObj_heap_other (by omega)).trans hk) (Nat.le_refl _)⟩
theorem range_cutsN {l₀ : Nat} {r₀ : Loop} {g : Operand} {ps : Array Tmp} {assign body : Code} {Q : Exit → Act → World → Prop} {a : Act} {w : World}
    (hro : F.round = some l₀) (hl₀ : w.heap[l₀]? = some (.loop r₀)) (h1 : 1 ≤ n) {gf : Nat} {lb : Array Value} (hg : a.eval g = .func (.func gf) #[] lb) (hFg : F.fn gf) (eg : ∀ args w, (callFunc gf args).run P w = .ok (.enter gf args) w)
    {L B : Nat} {xs : List Value} (hB : B < w.heap.size) (hseq : Iter F (n - 1) P gf lb L B xs w) (hps : ps.size = 1)
    (I : Nat → World → Prop) (Ix : Code → Nat → World → Prop) (hI : Hold B w.heap.size I) (hIx : ∀ c, Hold B w.heap.size (Ix c)) (h0 : I 0 w) (a₁ : Value → Act)
    (hassign : ∀ (l : Nat) (v : Value) (W : World) (K : Act → World → Prop), K (a₁ v) W →
      assign.wpIn (F.inRound l) (n - 1 - 1) P (Exit.then K (fun _ _ _ => False)) { tmps := (ps.zip #[v]).foldl (fun t (p, v) => t.setIfInBounds p v) a.tmps, defers := [] } W)
    (hbody : ∀ (l k : Nat) (v : Value) (W : World), I k W → xs[k]? = some v → w.heap.size ≤ W.heap.size → w.heap.size ≤ l → (∃ r, W.heap[l]? = some (.loop r)) → body.wpIn (F.inRound l) (n - 1 - 1) P (cutPost L B I Ix k W) (a₁ v) W)
    (hdone : ∀ (W : World), I xs.length W → Q .normal a W)
    (hstop : ∀ (c : Code) (k : Nat) (W : World), Ix c k W → c.wpIn F n P Q a W) :
    (Code.rangeFunc g ps assign body).wpIn F n P Q a w := by
  refine wpIn_rangeFunc ?_
  intro fn hfn
  rw [hro]
  obtain ⟨rec, hrec⟩ : ∃ rec : LoopState → Option Code → Loop, rec = fun st pe => { state := st, pending := pe, fn, tmps := a.tmps, params := ps, assign, body, defers := r₀.defers } := ⟨_, rfl⟩
  obtain ⟨W1, hW1⟩ : ∃ W1, w.alloc (.loop (rec .ready none)) = W1 := ⟨_, rfl⟩
  have hz1 : W1.heap.size = w.heap.size + 1 := by rw [← hW1]; simp
  have hL1 : W1.heap[w.heap.size]? = some (.loop (rec .ready none)) := by rw [← hW1]; exact World.alloc_heap_new w _
  have hI1 : I 0 W1 := by rw [← hW1]; exact hI.new _ h0
  have hk1 : Keeps L B w W1 := by rw [← hW1]; exact Keeps.alloc _ _ _ _
  refine ⟨w.heap.size, [], W1, { target := .fn (.func gf) lb, args := #[.func (.yield w.heap.size) #[] #[]] }, W1, gf,
    #[.func (.yield w.heap.size) #[] #[]] ++ lb, W1, ?_, ?_, ?_, ?_, fun _ => h1, ?_⟩
  · rw [← hW1, hrec]; exact run_enterLoop_inner hl₀ _ _ _ _ _
  · simp only [resolve, hg]
    simp [go_sem]
  · intro f' hf'; simp [Target.leads] at hf'; subst hf'; exact hFg
  · simp [invoke, go_sem, eg]
  · have hgb : ∀ {W W' : World}, W.grownBy W' (some B) → Harm B w.heap.size W W' := fun h => ⟨some B, h, fun r e => .inl (by cases e; rfl)⟩
    have hst : ∀ {W W' : World} {r : Nat} {o : Obj}, W.grownBy W' (some B) → w.heap.size ≤ r → W.heap[r]? = some o → W'.heap[r]? = some o :=
      fun {W W' r o} h hr hl => (h.block r (Array.getElem?_eq_some_iff.1 hl).1 (by intro e; cases e; omega)).trans hl
    refine (hseq w.heap.size
      (fun k W => I k W ∧ W.heap[w.heap.size]? = some (.loop (rec .ready none)))
      (fun k W => ∃ c, Ix c k W ∧ W.heap[w.heap.size]? = some (.loop (rec .done (some c))))
      W1 hk1
      (fun k A C hs hg' => ⟨hI k A C hs.1 (hgb hg'), hst hg' (Nat.le_refl _) hs.2⟩)
      (fun k A C hs hg' => by
        obtain ⟨c, hc, hl⟩ := hs
        exact ⟨c, hIx c k A C hc (hgb hg'), hst hg' (Nat.le_refl _) hl⟩)
      ?_ ⟨hI1, hL1⟩).mono ?_
    · rintro k W v ⟨hi, hl⟩ hv
      have hlt : w.heap.size < W.heap.size := (Array.getElem?_eq_some_iff.1 hl).1
      have hy := run_yield (P := P) (args := #[v]) hl (by rw [hrec]; exact hps.symm)
      rw [hrec] at hy
      refine ⟨fn, _, assign, body, hy, roundIn_of_wpIn hfn (hassign _ v W _ ⟨_, run_beginRound hl (by rw [hrec]), ?_⟩)⟩
      have hl2 : (W.putObj w.heap.size (.loop { rec .ready none with state := .busy })).heap[w.heap.size]? = some (.loop { rec .ready none with state := .busy }) := World.putObj_heap_same hlt
      have hz2 : (W.putObj w.heap.size (.loop { rec .ready none with state := .busy })).heap.size = W.heap.size := World.putObj_size
      have hi2 := hI.put (.loop { rec .ready none with state := .busy }) hi (Nat.le_refl _) hl rfl
      refine wpIn_mono (hbody _ k v _ hi2 hv (by rw [hz2]; omega) (Nat.le_refl _) ⟨_, hl2⟩) ?_
      have fin : ∀ (jump : Option Code) (W3 : World), Keeps L B (W.putObj w.heap.size (.loop { rec .ready none with state := .busy })) W3 →
          (Instr.endRound w.heap.size jump).run P W3 = .ok (.bool jump.isNone) (W3.putObj w.heap.size (.loop (rec (if jump.isNone then .ready else .done) jump))) ∧
          W3.heap[w.heap.size]? = some (.loop { rec .ready none with state := .busy }) ∧
          (W3.putObj w.heap.size (.loop (rec (if jump.isNone then .ready else .done) jump))).heap[w.heap.size]? = some (.loop (rec (if jump.isNone then .ready else .done) jump)) := fun jump W3 hk3 => by
        have hl3 := (hk3.block _ (.inr (.inr ⟨_, hl2, rfl⟩)) (by rw [hz2]; omega)).trans hl2
        have := run_endRound (P := P) jump hl3
        rw [hrec] at this ⊢
        exact ⟨this, by rw [hrec] at hl3; exact hl3, World.putObj_heap_same (Array.getElem?_eq_some_iff.1 hl3).1⟩
      have keep : ∀ (W3 : World) (o : Obj), Keeps L B (W.putObj w.heap.size (.loop { rec .ready none with state := .busy })) W3 →
          o = .loop (rec .ready none) → Keeps L B W (W3.putObj w.heap.size o) := fun W3 o hk3 ho => by
        refine ⟨by rw [World.putObj_size]; have := hk3.size; rw [hz2] at this; exact this, fun r hb hr => ?_⟩
        by_cases e : r = w.heap.size
        · subst e; rw [World.putObj_heap_same (Nat.lt_of_lt_of_le hlt (by have := hk3.size; rw [hz2] at this; exact this)), ho]; exact hl.symm
        · rw [World.putObj_heap_other e, hk3.block r (by rwa [World.putObj_heap_other e]) (by rw [hz2]; exact hr), World.putObj_heap_other e]
      rintro e a3 W3 hp
      cases e with
      | normal =>
        obtain ⟨hk3, hi3⟩ := hp
        obtain ⟨hr, hl3, hl4⟩ := fin none W3 hk3
        exact ⟨_, _, hr, .inl ⟨rfl, ⟨hI.put _ hi3 (Nat.le_refl _) hl3 rfl, hl4⟩, keep W3 _ hk3 (by simp)⟩⟩
      | ret =>
        obtain ⟨hk3, hi3⟩ := hp
        obtain ⟨hr, hl3, hl4⟩ := fin (some .ret) W3 hk3
        exact ⟨_, _, hr, .inr ⟨rfl, .ret, (hIx _).put _ hi3 (Nat.le_refl _) hl3 rfl, hl4⟩⟩
      | exit id =>
        obtain ⟨hk3, hi3⟩ := hp
        obtain ⟨hr, hl3, hl4⟩ := fin (some (.exit id)) W3 hk3
        exact ⟨_, _, hr, .inr ⟨rfl, .exit id, (hIx _).put _ hi3 (Nat.le_refl _) hl3 rfl, hl4⟩⟩
      | goto t =>
        obtain ⟨hk3, hi3⟩ := hp
        obtain ⟨hr, hl3, hl4⟩ := fin (some (.goto t)) W3 hk3
        exact ⟨_, _, hr, .inr ⟨rfl, .goto t, (hIx _).put _ hi3 (Nat.le_refl _) hl3 rfl, hl4⟩⟩
      | panic ch => exact hp.elim
      | outgrown => exact hp.elim
    · rintro e W2 ⟨⟨v, rfl⟩, (⟨hi, hl⟩ | ⟨k, c, hi, hl⟩)⟩
      · exact ⟨none, _, by have := run_endLoop (P := P) hl (by rw [hrec]; simp); rw [hrec] at this; exact this, hdone _ (hI.put _ hi (Nat.le_refl _) hl rfl)⟩
      · exact ⟨some c, _, by have := run_endLoop (P := P) hl (by rw [hrec]; simp); rw [hrec] at this; exact this, hstop c k _ ((hIx c).put _ hi (Nat.le_refl _) hl rfl)⟩
theorem Iter.inRound {gf : Nat} {lb : Array Value} {L B : Nat} {xs : List Value} {w : World} (l : Nat) (h : Iter F n P gf lb L B xs w) : Iter (F.inRound l) n P gf lb L B xs w := h
end Go.Proofs.Cuts
namespace Go.Proofs.YtckeeefeiljamaaGreatDoor
open Go.RowKit Go.Lib Go.Shelf Go.Proofs.YtckeeefeiljamaaGreatDoorW.PrintWords Go.Proofs.YtckeeefeiljamaaGreatDoorW.PrintLast

/-- What a call leans on: two variables of Go's library. -/
structure Gw (w : World) : Prop where
  most : ∃ m : Int, w.cell? ⟨2, 0, none⟩ = some (.int .i64 m)
  tab : Lib.TabIs Tryz.prog w "internal/strconv.uint64pow10" .u64 Lib.pow10Tab
  big : 5 < w.heap.size
theorem tab_at : Tryz.prog.globalNamed "internal/strconv.uint64pow10" = some 5 := by kernel_rfl
theorem Gw.below {w W : World} (h : Gw w) (hb : Below w.heap.size w W) : Gw W :=
  ⟨h.most.imp fun _ hm => pw_cell_below hb hm, var?_below hb tab_at h.big h.tab, Nat.lt_of_lt_of_le h.big hb.size⟩
theorem Gw.drewN {w : World} (h : Gw w) (n : Nat) : Gw (w.drewN n) := h.below (below_drewN (Below.refl _ _) n)

def toBytes (l : List UInt8) : ByteArray := ⟨l.toArray⟩

/-! strings.Trim, an ASCII cutset -/
def strings_Trim.f (s cs : ByteArray) : Option ByteArray :=
  if s.size ≤ 9223372036854775807 ∧ cs.size < 4294967281 ∧ cs.data.toList.all (fun b => b.toNat < 128) = true then some (toBytes (Lib.trimS s.data.toList cs.data.toList)) else none
theorem strings_Trim.calls (a0 a1 : ByteArray) (r : ByteArray) (w : World) (h : strings_Trim.f a0 a1 = some r) :
    Calls Tryz.prog 89 #[.string a0, .string a1] w fun e w' => e = .returned (.string r) ∧ Below w.heap.size w w' := by
  unfold strings_Trim.f at h
  split at h
  · rename_i hc
    obtain rfl := Option.some.inj h
    exact Any.strings_Trim_laid Tryz.lays160 (by kernel_rfl) a0 a1 w hc.1 hc.2.1 (fun j b hj => by
      have := List.all_eq_true.1 hc.2.2 b (List.mem_of_getElem? hj); simpa using this)
  · cases h

/-! strings.Cut -/
def strings_Cut.f (s sep : ByteArray) : Option (ByteArray × ByteArray × Bool) :=
  if s.size < 4294967281 then some (toBytes (Lib.cut s.data.toList sep.data.toList).1, toBytes (Lib.cut s.data.toList sep.data.toList).2.1, (Lib.cut s.data.toList sep.data.toList).2.2) else none
theorem strings_Cut.calls (a0 a1 : ByteArray) (r1 r2 : ByteArray) (r3 : Bool) (w : World) (hG : Gw w) (h : strings_Cut.f a0 a1 = some (r1, r2, r3)) :
    Calls Tryz.prog 77 #[.string a0, .string a1] w fun e w' => e = .returned (.tuple #[.string r1, .string r2, .bool r3]) ∧ Drawn0 w w' := by
  unfold strings_Cut.f at h
  split at h
  · rename_i hc
    simp only [Option.some.injEq, Prod.mk.injEq] at h
    obtain ⟨rfl, rfl, rfl⟩ := h
    obtain ⟨m, hm⟩ := hG.most
    exact (Tryz.strings_Cut a0 a1 m w hc hm).mono fun e w' ⟨he, n, hn⟩ => ⟨he, ⟨n, hn⟩⟩
  · cases h

/-! strings.Split, a separator that isn't empty -/
def strings_Split.f (s sep : ByteArray) : Option (List ByteArray) :=
  if s.size < 4294967281 ∧ 1 ≤ sep.size then some (Lib.splitB sep 0 (Lib.countB s sep) s) else none
theorem strings_Split.calls (a0 a1 : ByteArray) (r : List ByteArray) (w : World) (hG : Gw w) (h : strings_Split.f a0 a1 = some r) :
    Calls Tryz.prog 78 #[.string a0, .string a1] w fun e w' => ∃ v0_ : Value, e = .returned (v0_) ∧ Kd.R Kd.string 9 w' w.heap.size (fun _ => True) v0_ r ∧ Below w.heap.size w w' := by
  unfold strings_Split.f at h
  split at h
  · rename_i hc
    obtain rfl := Option.some.inj h
    obtain ⟨m, hm⟩ := hG.most
    refine (Tryz.strings_Split a0 a1 m w hc.1 hm hc.2).mono fun e w' ⟨he, hw⟩ => ?_
    subst hw
    refine ⟨_, he, ?_, (Below.refl _ _).alloc (Nat.le_refl _) _⟩
    have hl : (Lib.splitB a1 0 (Lib.countB a0 a1) a0).length = Lib.countB a0 a1 + 1 := Lib.splitB_all a1 hc.2 0 _ a0 rfl
    have hle := Lib.countB_le a1 hc.2 a0.size a0 (Nat.le_refl _)
    refine Kd.R_of_own ⟨by simp [encs], .inr ⟨w.heap.size, Lib.countB a0 a1 + 1, ((Lib.splitB a1 0 (Lib.countB a0 a1) a0).map Value.string).toArray, by rw [hl], Nat.le_refl _, by show (w.heap.push _)[w.heap.size]? = _; simp, by omega, ?_, by simp [hl], by simp only [encs, Nat.mul_one]; exact List.take_of_length_le (by simp [hl])⟩⟩ (fun _ _ => trivial)
    simp only [maxLen]
    have := hc.1
    omega
  · cases h

/-! strconv.Atoi, a numeral that isn't long -/
def strconv_Atoi.f (s : ByteArray) : Option (Int × Option Int) :=
  if s.size ≤ 18 then (Lib.atoi s.data.toList).map fun n => (n, none) else none
theorem below_bytesWorld (w : World) (e : TypeId) (s : ByteArray) : Below w.heap.size w (Lib.bytesWorld w e s) :=
  ⟨rfl, rfl, rfl, by rw [Lib.bytesWorld_size]; omega, fun j hj => Lib.bytesWorld_at_old w e s j hj⟩
theorem strconv_Atoi.calls (a0 : ByteArray) (r1 : Int) (r2 : Option Int) (w : World) (h : strconv_Atoi.f a0 = some (r1, r2)) :
    Calls Tryz.prog 80 #[.string a0] w fun e w' => e = .returned (.tuple #[.int .i64 r1, .nilIface]) ∧ Below w.heap.size w w' := by
  unfold strconv_Atoi.f at h
  split at h
  · rename_i hc
    obtain ⟨n, hn, he⟩ := Option.map_eq_some_iff.1 h
    simp only [Prod.mk.injEq] at he
    obtain ⟨rfl, rfl⟩ := he
    refine (Tryz.strconv_Atoi a0 n hc hn w).mono fun e w' ⟨he, t, ht⟩ => ⟨he, ?_⟩
    subst ht
    exact below_bytesWorld _ _ _
  · cases h

/-! strconv.Itoa -/
def strconv_Itoa.f (n : Int) : Option ByteArray :=
  if -9223372036854775808 ≤ n ∧ n ≤ 9223372036854775807 then some (toBytes (Lib.itoa n)) else none
theorem strconv_Itoa.calls (a0 : Int) (r : ByteArray) (w : World) (hG : Gw w) (h : strconv_Itoa.f a0 = some r) :
    Calls Tryz.prog 90 #[.int .i64 a0] w fun e w' => e = .returned (.string r) ∧ Below w.heap.size w w' := by
  unfold strconv_Itoa.f at h
  split at h
  · rename_i hc
    obtain rfl := Option.some.inj h
    refine (Tryz.strconv_Itoa a0 hc.1 hc.2 w hG.tab).mono fun e w' ⟨he, k, os, hw⟩ => ⟨he, ?_⟩
    subst hw
    exact ⟨rfl, rfl, rfl, by simp [Sort.grow, World.drewN], fun j hj => by simp [Sort.grow, World.drewN, Array.getElem?_append, hj]⟩
  · cases h
end Go.Proofs.YtckeeefeiljamaaGreatDoor
set_option linter.unusedVariables false
namespace Go.Proofs.YtckeeefeiljamaaGreatDoor
open Go Go.RowKit Go.Proofs.YtckeeefeiljamaaGreatDoorW.PrintWords
theorem zb {w0 w w' : World} {g : Nat} {o : Obj} (h : Aside0 (w0.heap[g]? = some o)) (hb : Below w.heap.size w w') (hc : w0.heap[g]? = some o → w.heap[g]? = some o := by intro h_; (with_reducible repeat (first | refine blk_drewN ?_ _ | refine blk_drew ?_ | refine blk_alloc ?_ _)); exact h_) : Aside0 (w'.heap[g]? = some o) := ⟨blk_below (hc h.out) hb⟩
theorem zs {w0 w1 w w' : World} (h : Aside0 (Below w0.heap.size w0 w1)) (hb : Below w.heap.size w w') (hc : Below w0.heap.size w0 w1 → Below w0.heap.size w0 w := by intro h_; repeat (first | (with_reducible first | exact h_ | apply below_alloc | apply pw_below_drewN | apply below_drew1 | refine below_set ?_ (Aside0.out (by assumption))) | exact h_)) : Aside0 (Below w0.heap.size w0 w') := ⟨below_step (hc h.out) hb⟩
theorem zz {w0 w1 w : World} {g : Nat} (h : Aside0 (Below w0.heap.size w0 w1)) (hg : g = w.heap.size) (hc : Below w0.heap.size w0 w1 → Below w0.heap.size w0 w := by intro h_; repeat (first | (with_reducible first | exact h_ | apply below_alloc | apply pw_below_drewN | apply below_drew1 | refine below_set ?_ (Aside0.out (by assumption))) | exact h_)) : Aside0 (w0.heap.size ≤ g) := ⟨by rw [hg]; exact below_size (hc h.out)⟩
theorem zB {w0 w1 w : World} (h : Aside0 (Below w0.heap.size w0 w1)) (hc : Below w0.heap.size w0 w1 → Below w0.heap.size w0 w := by intro h_; repeat (first | (with_reducible first | exact h_ | apply below_alloc | apply pw_below_drewN | apply below_drew1 | refine below_set ?_ (Aside0.out (by assumption))) | exact h_)) : Below w0.heap.size w0 w := hc h.out
theorem zn {w0 w : World} {g g2 : Nat} {o : Obj} (h : Aside0 (w0.heap[g]? = some o)) (hg : g2 = w.heap.size) (hc : w0.heap[g]? = some o → w.heap[g]? = some o := by intro h_; (with_reducible repeat (first | refine blk_drewN ?_ _ | refine blk_drew ?_ | refine blk_alloc ?_ _)); exact h_) : Aside0 (g ≠ g2) := ⟨by rw [hg]; exact Nat.ne_of_lt (blk_lt (hc h.out))⟩
theorem zm {w0 w : World} {g g2 : Nat} {o : Obj} (h : Aside0 (w0.heap[g]? = some o)) (hg : g2 = w.heap.size) (hc : w0.heap[g]? = some o → w.heap[g]? = some o := by intro h_; (with_reducible repeat (first | refine blk_drewN ?_ _ | refine blk_drew ?_ | refine blk_alloc ?_ _)); exact h_) : Aside0 (g2 ≠ g) := ⟨by rw [hg]; exact Nat.ne_of_gt (blk_lt (hc h.out))⟩
theorem zw {w0 W w' : World} {g : Nat} {t : TypeId} {cs : Array Value} (h : Aside0 (w0.heap[g]? = some (.cells cs t (0, 0)))) (hw : w' = W) (hc : w0.heap[g]? = some (.cells cs t (0, 0)) → W.heap[g]? = some (.cells cs t (0, 0)) := by intro h_; (repeat (first | refine blk_far ?_ (Aside0.out (by assumption)) _ | (with_reducible first | refine blk_drewN ?_ _ | refine blk_drew ?_ | refine blk_alloc ?_ _))); exact h_) : Aside0 (w'.heap[g]? = some (.cells cs t (0, 0))) := ⟨by rw [hw]; exact hc h.out⟩
theorem zu {w0 w1 W w' : World} (h : Aside0 (Below w0.heap.size w0 w1)) (hw : w' = W) (hc : Below w0.heap.size w0 w1 → Below w0.heap.size w0 W := by intro h_; repeat (first | (with_reducible first | exact h_ | apply below_alloc | apply pw_below_drewN | apply below_drew1 | refine below_set ?_ (Aside0.out (by assumption))) | exact h_)) : Aside0 (Below w0.heap.size w0 w') := ⟨by rw [hw]; exact hc h.out⟩
theorem zG {w0 w : World} (h : Aside0 (Gw w0)) (hc : Gw w0 → Gw w := by intro h_; first | exact h_ | exact Gw.drewN h_ _ | exact Gw.below h_ (by repeat (first | (with_reducible first | exact Aside0.out (by assumption) | apply below_alloc | apply pw_below_drewN | apply below_drew1) | exact Aside0.out (by assumption) | refine below_set ?_ (Aside0.out (by assumption))))) : Gw w := hc h.out
theorem zc1 {w : World} {g : Nat} {t : TypeId} {x0 : Value} (h : Aside0 (w.heap[g]? = some (.cells #[x0] t (0, 0)))) : w.cell? ⟨g, 0, none⟩ = some x0 := (blk_cell h.out 0).trans rfl
theorem zf1 {w : World} {g : Nat} {t : TypeId} {x0 : Value} (h : Aside0 (w.heap[g]? = some (.cells #[x0] t (0, 0)))) : w.frozen? ⟨g, 0, none⟩ = false := blk_frozen h.out 0
theorem zc2 {w : World} {g : Nat} {t : TypeId} {x0 x1 : Value} (h : Aside0 (w.heap[g]? = some (.cells #[x0, x1] t (0, 0)))) : w.cell? ⟨g, 0, none⟩ = some x0 ∧ w.cell? ⟨g, 1, none⟩ = some x1 := ⟨(blk_cell h.out 0).trans rfl, (blk_cell h.out 1).trans rfl⟩
theorem zf2 {w : World} {g : Nat} {t : TypeId} {x0 x1 : Value} (h : Aside0 (w.heap[g]? = some (.cells #[x0, x1] t (0, 0)))) : w.frozen? ⟨g, 0, none⟩ = false ∧ w.frozen? ⟨g, 1, none⟩ = false := ⟨blk_frozen h.out 0, blk_frozen h.out 1⟩
theorem zc3 {w : World} {g : Nat} {t : TypeId} {x0 x1 x2 : Value} (h : Aside0 (w.heap[g]? = some (.cells #[x0, x1, x2] t (0, 0)))) : w.cell? ⟨g, 0, none⟩ = some x0 ∧ w.cell? ⟨g, 1, none⟩ = some x1 ∧ w.cell? ⟨g, 2, none⟩ = some x2 := ⟨(blk_cell h.out 0).trans rfl, (blk_cell h.out 1).trans rfl, (blk_cell h.out 2).trans rfl⟩
theorem zf3 {w : World} {g : Nat} {t : TypeId} {x0 x1 x2 : Value} (h : Aside0 (w.heap[g]? = some (.cells #[x0, x1, x2] t (0, 0)))) : w.frozen? ⟨g, 0, none⟩ = false ∧ w.frozen? ⟨g, 1, none⟩ = false ∧ w.frozen? ⟨g, 2, none⟩ = false := ⟨blk_frozen h.out 0, blk_frozen h.out 1, blk_frozen h.out 2⟩
theorem zc4 {w : World} {g : Nat} {t : TypeId} {x0 x1 x2 x3 : Value} (h : Aside0 (w.heap[g]? = some (.cells #[x0, x1, x2, x3] t (0, 0)))) : w.cell? ⟨g, 0, none⟩ = some x0 ∧ w.cell? ⟨g, 1, none⟩ = some x1 ∧ w.cell? ⟨g, 2, none⟩ = some x2 ∧ w.cell? ⟨g, 3, none⟩ = some x3 := ⟨(blk_cell h.out 0).trans rfl, (blk_cell h.out 1).trans rfl, (blk_cell h.out 2).trans rfl, (blk_cell h.out 3).trans rfl⟩
theorem zf4 {w : World} {g : Nat} {t : TypeId} {x0 x1 x2 x3 : Value} (h : Aside0 (w.heap[g]? = some (.cells #[x0, x1, x2, x3] t (0, 0)))) : w.frozen? ⟨g, 0, none⟩ = false ∧ w.frozen? ⟨g, 1, none⟩ = false ∧ w.frozen? ⟨g, 2, none⟩ = false ∧ w.frozen? ⟨g, 3, none⟩ = false := ⟨blk_frozen h.out 0, blk_frozen h.out 1, blk_frozen h.out 2, blk_frozen h.out 3⟩
theorem zc5 {w : World} {g : Nat} {t : TypeId} {x0 x1 x2 x3 x4 : Value} (h : Aside0 (w.heap[g]? = some (.cells #[x0, x1, x2, x3, x4] t (0, 0)))) : w.cell? ⟨g, 0, none⟩ = some x0 ∧ w.cell? ⟨g, 1, none⟩ = some x1 ∧ w.cell? ⟨g, 2, none⟩ = some x2 ∧ w.cell? ⟨g, 3, none⟩ = some x3 ∧ w.cell? ⟨g, 4, none⟩ = some x4 := ⟨(blk_cell h.out 0).trans rfl, (blk_cell h.out 1).trans rfl, (blk_cell h.out 2).trans rfl, (blk_cell h.out 3).trans rfl, (blk_cell h.out 4).trans rfl⟩
theorem zf5 {w : World} {g : Nat} {t : TypeId} {x0 x1 x2 x3 x4 : Value} (h : Aside0 (w.heap[g]? = some (.cells #[x0, x1, x2, x3, x4] t (0, 0)))) : w.frozen? ⟨g, 0, none⟩ = false ∧ w.frozen? ⟨g, 1, none⟩ = false ∧ w.frozen? ⟨g, 2, none⟩ = false ∧ w.frozen? ⟨g, 3, none⟩ = false ∧ w.frozen? ⟨g, 4, none⟩ = false := ⟨blk_frozen h.out 0, blk_frozen h.out 1, blk_frozen h.out 2, blk_frozen h.out 3, blk_frozen h.out 4⟩
theorem zc6 {w : World} {g : Nat} {t : TypeId} {x0 x1 x2 x3 x4 x5 : Value} (h : Aside0 (w.heap[g]? = some (.cells #[x0, x1, x2, x3, x4, x5] t (0, 0)))) : w.cell? ⟨g, 0, none⟩ = some x0 ∧ w.cell? ⟨g, 1, none⟩ = some x1 ∧ w.cell? ⟨g, 2, none⟩ = some x2 ∧ w.cell? ⟨g, 3, none⟩ = some x3 ∧ w.cell? ⟨g, 4, none⟩ = some x4 ∧ w.cell? ⟨g, 5, none⟩ = some x5 := ⟨(blk_cell h.out 0).trans rfl, (blk_cell h.out 1).trans rfl, (blk_cell h.out 2).trans rfl, (blk_cell h.out 3).trans rfl, (blk_cell h.out 4).trans rfl, (blk_cell h.out 5).trans rfl⟩
theorem zf6 {w : World} {g : Nat} {t : TypeId} {x0 x1 x2 x3 x4 x5 : Value} (h : Aside0 (w.heap[g]? = some (.cells #[x0, x1, x2, x3, x4, x5] t (0, 0)))) : w.frozen? ⟨g, 0, none⟩ = false ∧ w.frozen? ⟨g, 1, none⟩ = false ∧ w.frozen? ⟨g, 2, none⟩ = false ∧ w.frozen? ⟨g, 3, none⟩ = false ∧ w.frozen? ⟨g, 4, none⟩ = false ∧ w.frozen? ⟨g, 5, none⟩ = false := ⟨blk_frozen h.out 0, blk_frozen h.out 1, blk_frozen h.out 2, blk_frozen h.out 3, blk_frozen h.out 4, blk_frozen h.out 5⟩
end Go.Proofs.YtckeeefeiljamaaGreatDoor
namespace Go.Proofs.YtckeeefeiljamaaGreatDoor.PNum
open Go.RowKit Go.Proofs.YtckeeefeiljamaaGreatDoorW.PrintWords Go.Proofs.YtckeeefeiljamaaGreatDoorW.PrintLast Go.Proofs.YtckeeefeiljamaaGreatDoorW.PrintMore
attribute [local go_sem] max2_int min2_int max_two min_two max_three min_three max_four min_four   -- for this text's walks alone
set_option linter.unusedVariables false
set_option linter.unusedSimpArgs false



def errW : Option Int → Value
  | none => .nilIface
  | some c => .iface 0 (.int .i64 c)
theorem errW_none : errW none = .nilIface := rfl
theorem errW_some (c : Int) : errW (some c) = .iface 0 (.int .i64 c) := rfl

-- the values' own types

end Go.Proofs.YtckeeefeiljamaaGreatDoor.PNum
namespace Go.Proofs.YtckeeefeiljamaaGreatDoor.PNum
open Go.RowKit Go.Proofs.YtckeeefeiljamaaGreatDoorW.PrintWords Go.Proofs.YtckeeefeiljamaaGreatDoorW.PrintLast Go.Proofs.YtckeeefeiljamaaGreatDoorW.PrintMore
attribute [local go_sem] max2_int min2_int max_two min_two max_three min_three max_four min_four   -- for this text's walks alone
set_option linter.unusedVariables false
set_option linter.unusedSimpArgs false

/-! ### semver_number: function 79 -/
def semver_number.f (a0 : ByteArray) : Option (Bool) := if a0.toList = ([] : List UInt8) then (some false) else (if (a0.size : Int) > 6 then (some false) else (if 0 < (a0.size : Int) then (if (bt a0 0) = 48 then (if a0.toList = ([48] : List UInt8) then ((strings_Trim.f a0 (⟨#[48, 49, 50, 51, 52, 53, 54, 55, 56, 57]⟩ : ByteArray)).bind fun t101 => (some (t101.toList == ([] : List UInt8)))) else (some false)) else ((strings_Trim.f a0 (⟨#[48, 49, 50, 51, 52, 53, 54, 55, 56, 57]⟩ : ByteArray)).bind fun t102 => (some (t102.toList == ([] : List UInt8))))) else (none)))
set_option maxHeartbeats 8000000 in
set_option maxRecDepth 100000 in
theorem semver_number.calls (a0 : ByteArray) (r : Bool) (w : World) (h : semver_number.f a0 = some r) :
    Calls Tryz.prog 79 #[.string a0] w fun e w' => e = .returned (.bool r) ∧ Below w.heap.size w w' := by
  have HB := Aside0.mk (Below.refl w.heap.size w)
  have H : (if a0.toList = ([] : List UInt8) then (some false) else (if (a0.size : Int) > 6 then (some false) else (if 0 < (a0.size : Int) then (if (bt a0 0) = 48 then (if a0.toList = ([48] : List UInt8) then ((strings_Trim.f a0 (⟨#[48, 49, 50, 51, 52, 53, 54, 55, 56, 57]⟩ : ByteArray)).bind fun t101 => (some (t101.toList == ([] : List UInt8)))) else (some false)) else ((strings_Trim.f a0 (⟨#[48, 49, 50, 51, 52, 53, 54, 55, 56, 57]⟩ : ByteArray)).bind fun t102 => (some (t102.toList == ([] : List UInt8))))) else (none)))) = some r := h
  clear h
  by_cases c2 : a0.toList = ([] : List UInt8)
  · rw [if_pos c2] at H
    have c2b0 : (a0.toList == ([] : List UInt8)) = true := beq_iff_eq.mpr c2
    have c2b1 : (a0.toList != ([] : List UInt8)) = false := bne_eq_false_iff_eq.mpr c2
    clear c2
    obtain rfl := Option.some.inj H
    go_enter Tryz.func79, Tryz.ntmps79
    go_wp2
    go_ret
    exact ⟨by first | rfl | (simp [errW_none, errW_some] <;> rfl) | (simp [*, errW_none, errW_some] <;> rfl), by repeat (first | (with_reducible first | exact HB.out | apply below_alloc | apply pw_below_drewN | apply below_drew1) | exact HB.out)⟩
  · rw [if_neg c2] at H
    have c2b0 : (a0.toList == ([] : List UInt8)) = false := beq_eq_false_iff_ne.mpr c2
    have c2b1 : (a0.toList != ([] : List UInt8)) = true := bne_iff_ne.mpr c2
    by_cases c3 : (a0.size : Int) > 6
    · rw [if_pos c3] at H
      have c3b0 : decide (6 < (a0.size : Int)) = true := decide_eq_true c3
      have c3b1 : decide (6 < a0.size) = true := decide_eq_true (by omega)
      clear c3
      obtain rfl := Option.some.inj H
      go_enter Tryz.func79, Tryz.ntmps79
      go_wp2
      go_ret
      exact ⟨by first | rfl | (simp [errW_none, errW_some] <;> rfl) | (simp [*, errW_none, errW_some] <;> rfl), by repeat (first | (with_reducible first | exact HB.out | apply below_alloc | apply pw_below_drewN | apply below_drew1) | exact HB.out)⟩
    · rw [if_neg c3] at H
      have c3b0 : decide (6 < (a0.size : Int)) = false := decide_eq_false c3
      have c3b1 : decide (6 < a0.size) = false := decide_eq_false (by omega)
      clear c3
      by_cases c4 : 0 < (a0.size : Int)
      · rw [if_pos c4] at H
        have c4b0 : decide (0 < (a0.size : Int)) = true := decide_eq_true c4
        have c4b1 : decide (0 < a0.size) = true := decide_eq_true (by omega)
        clear c4
        by_cases c6 : (bt a0 0) = 48
        · rw [if_pos c6] at H
          have c6b0 : ((bt a0 0) == 48) = true := beq_iff_eq.mpr c6
          have c6b1 : ((bt a0 0) != 48) = false := bne_eq_false_iff_eq.mpr c6
          clear c6
          by_cases c7 : a0.toList = ([48] : List UInt8)
          · rw [if_pos c7] at H
            have c7b0 : (a0.toList == ([48] : List UInt8)) = true := beq_iff_eq.mpr c7
            have c7b1 : (a0.toList != ([48] : List UInt8)) = false := bne_eq_false_iff_eq.mpr c7
            clear c7
            replace H := Option.bind_eq_some_iff.mp H
            obtain ⟨t101, A80, H⟩ := H
            replace H : (some (t101.toList == ([] : List UInt8))) = some r := H
            have A8 := Aside0.mk A80
            clear A80
            obtain rfl := Option.some.inj H
            have p5 : 0 ≤ (0 : Int) := (by omega)
            have q5 : 0 < a0.size := (by have : (0 : Int) < (a0.size : Int) := of_decide_eq_true (by first | (with_reducible assumption) | assumption); omega)
            have hx5 : ∀ h : 0 < a0.size, ((a0[0]'h).toNat : Int) = bt a0 0 := bt_at a0 0
            clear p5
            have qi5 : (0 < (a0.size : Int)) = True := eq_true (of_decide_eq_true (by first | (with_reducible assumption) | assumption))
            replace q5 := eq_true q5
            go_enter Tryz.func79, Tryz.ntmps79
            go_wp2_with (first | ((with_reducible refine gate_callee (f := 89) rfl ?_); refine goesL_ (some 20) rfl rfl Tryz.func89 (by kernel_rfl) rfl #[.string a0, .string (⟨#[48, 49, 50, 51, 52, 53, 54, 55, 56, 57]⟩ : ByteArray)] rfl (by (try simp only [List.map_toArray, List.map_cons, List.map_nil]); first | done | rfl | (simp only [List.length_drop, List.length_take]; rfl)) ?_; (with_reducible refine (strings_Trim.calls a0 (⟨#[48, 49, 50, 51, 52, 53, 54, 55, 56, 57]⟩ : ByteArray) t101 _ A8.out).mono ?_); rintro e w9 ⟨rfl, hb⟩; refine ⟨_, rfl, ?_⟩; have n0_ := Aside0.mk (below_step (by repeat (first | (with_reducible first | exact HB.out | apply below_alloc | apply pw_below_drewN | apply below_drew1) | exact HB.out)) hb); clear HB; have HB := n0_; clear n0_; (try clear hb); (try clear hb2); (try clear hk); (try clear hi)))
            go_ret
            exact ⟨by first | rfl | (simp [errW_none, errW_some] <;> rfl) | (simp [*, errW_none, errW_some] <;> rfl), by repeat (first | (with_reducible first | exact HB.out | apply below_alloc | apply pw_below_drewN | apply below_drew1) | exact HB.out)⟩
          · rw [if_neg c7] at H
            have c7b0 : (a0.toList == ([48] : List UInt8)) = false := beq_eq_false_iff_ne.mpr c7
            have c7b1 : (a0.toList != ([48] : List UInt8)) = true := bne_iff_ne.mpr c7
            obtain rfl := Option.some.inj H
            have p5 : 0 ≤ (0 : Int) := (by omega)
            have q5 : 0 < a0.size := (by have : (0 : Int) < (a0.size : Int) := of_decide_eq_true (by first | (with_reducible assumption) | assumption); omega)
            have hx5 : ∀ h : 0 < a0.size, ((a0[0]'h).toNat : Int) = bt a0 0 := bt_at a0 0
            clear p5
            have qi5 : (0 < (a0.size : Int)) = True := eq_true (of_decide_eq_true (by first | (with_reducible assumption) | assumption))
            replace q5 := eq_true q5
            go_enter Tryz.func79, Tryz.ntmps79
            go_wp2
            go_ret
            exact ⟨by first | rfl | (simp [errW_none, errW_some] <;> rfl) | (simp [*, errW_none, errW_some] <;> rfl), by repeat (first | (with_reducible first | exact HB.out | apply below_alloc | apply pw_below_drewN | apply below_drew1) | exact HB.out)⟩
        · rw [if_neg c6] at H
          have c6b0 : ((bt a0 0) == 48) = false := beq_eq_false_iff_ne.mpr c6
          have c6b1 : ((bt a0 0) != 48) = true := bne_iff_ne.mpr c6
          replace H := Option.bind_eq_some_iff.mp H
          obtain ⟨t102, A100, H⟩ := H
          replace H : (some (t102.toList == ([] : List UInt8))) = some r := H
          have A10 := Aside0.mk A100
          clear A100
          obtain rfl := Option.some.inj H
          have p5 : 0 ≤ (0 : Int) := (by omega)
          have q5 : 0 < a0.size := (by have : (0 : Int) < (a0.size : Int) := of_decide_eq_true (by first | (with_reducible assumption) | assumption); omega)
          have hx5 : ∀ h : 0 < a0.size, ((a0[0]'h).toNat : Int) = bt a0 0 := bt_at a0 0
          clear p5
          have qi5 : (0 < (a0.size : Int)) = True := eq_true (of_decide_eq_true (by first | (with_reducible assumption) | assumption))
          replace q5 := eq_true q5
          go_enter Tryz.func79, Tryz.ntmps79
          go_wp2_with (first | ((with_reducible refine gate_callee (f := 89) rfl ?_); refine goesL_ (some 20) rfl rfl Tryz.func89 (by kernel_rfl) rfl #[.string a0, .string (⟨#[48, 49, 50, 51, 52, 53, 54, 55, 56, 57]⟩ : ByteArray)] rfl (by (try simp only [List.map_toArray, List.map_cons, List.map_nil]); first | done | rfl | (simp only [List.length_drop, List.length_take]; rfl)) ?_; (with_reducible refine (strings_Trim.calls a0 (⟨#[48, 49, 50, 51, 52, 53, 54, 55, 56, 57]⟩ : ByteArray) t102 _ A10.out).mono ?_); rintro e w11 ⟨rfl, hb⟩; refine ⟨_, rfl, ?_⟩; have n0_ := Aside0.mk (below_step (by repeat (first | (with_reducible first | exact HB.out | apply below_alloc | apply pw_below_drewN | apply below_drew1) | exact HB.out)) hb); clear HB; have HB := n0_; clear n0_; (try clear hb); (try clear hb2); (try clear hk); (try clear hi)))
          go_ret
          exact ⟨by first | rfl | (simp [errW_none, errW_some] <;> rfl) | (simp [*, errW_none, errW_some] <;> rfl), by repeat (first | (with_reducible first | exact HB.out | apply below_alloc | apply pw_below_drewN | apply below_drew1) | exact HB.out)⟩
      · rw [if_neg c4] at H
        exact absurd H (by simp)

end Go.Proofs.YtckeeefeiljamaaGreatDoor.PNum
namespace Go.Proofs.YtckeeefeiljamaaGreatDoor
open Go.RowKit Go.Proofs.YtckeeefeiljamaaGreatDoorW.PrintWords Go.Proofs.YtckeeefeiljamaaGreatDoorW.PrintLast

def okB (c : Nat) : Bool := (decide (48 ≤ c) && decide (c ≤ 57)) || (decide (97 ≤ c) && decide (c ≤ 122))
def digits : ByteArray := ⟨#[48, 49, 50, 51, 52, 53, 54, 55, 56, 57]⟩
def at8 (s : ByteArray) (j : Nat) : Nat := (s.data.toList.getD j 0).toNat

theorem ba_toList_loop (s : ByteArray) : ∀ (n i : Nat) (r : List UInt8), s.size - i = n → ByteArray.toList.loop s i r = r.reverse ++ s.data.toList.drop i := by
  intro n
  induction n with
  | zero =>
    intro i r h
    unfold ByteArray.toList.loop
    rw [if_neg (by omega), List.drop_of_length_le (by rw [data_length]; omega), List.append_nil]
  | succ n ih =>
    intro i r h
    have hi : i < s.size := by omega
    unfold ByteArray.toList.loop
    rw [if_pos hi, ih (i + 1) _ (by omega)]
    have hl : i < s.data.toList.length := by rw [data_length]; exact hi
    rw [List.drop_eq_getElem_cons hl]
    simp only [List.reverse_cons, List.append_assoc, List.singleton_append]
    congr 2
    have h2 : i < s.data.size := hi
    exact getElem!_pos s.data i h2
theorem ba_toList (s : ByteArray) : s.toList = s.data.toList := by
  unfold ByteArray.toList; rw [ba_toList_loop s s.size 0 [] (by omega)]; simp
theorem toList_nil_iff (s : ByteArray) : (s.toList == ([] : List UInt8)) = (s.size == 0) := by
  rw [ba_toList, Bool.eq_iff_iff]; simp only [beq_iff_eq, ← List.length_eq_zero_iff, data_length]

/-- What mark's test of its bytes says. -/
def allOk (s : ByteArray) : Prop := ∀ j, j < s.size → okB (at8 s j) = true

theorem mark_off (s : ByteArray) (hs : s.size = 0 ∨ 10 < s.size) (w : World) :
    Calls Tryz.prog 63 #[.string s] w fun e w' => e = .returned (.bool false) ∧ Below w.heap.size w w' := by
  by_cases h0 : s.size = 0
  · have e0 : (s.toList == ([] : List UInt8)) = true := by rw [toList_nil_iff]; exact beq_iff_eq.2 h0
    go_enter Tryz.func63, Tryz.ntmps63
    go_wp2_with fail
    go_ret
    exact ⟨rfl, Below.refl _ _⟩
  · have e0 : (s.toList == ([] : List UInt8)) = false := by rw [toList_nil_iff]; exact beq_eq_false_iff_ne.2 h0
    have e1 : decide (10 < (s.size : Int)) = true := by simp; omega
    clear hs h0
    go_enter Tryz.func63, Tryz.ntmps63
    go_wp2_with fail
    go_ret
    exact ⟨rfl, Below.refl _ _⟩

/-- What mark answers behind its first tests. -/
def MarkPost (s rt : ByteArray) (rn : Bool) (w : World) (e : Ending) (w' : World) : Prop :=
  ∃ b : Bool, (e = .returned (.bool b) ∧ Below w.heap.size w w') ∧ ((allOk s ∧ b = (rt.toList != [] || rn)) ∨ (¬ allOk s ∧ b = false))

set_option maxHeartbeats 1000000 in
set_option maxRecDepth 100000 in
theorem mark_loop (s : ByteArray) (hs : s.size ≤ 10) (h1 : 1 ≤ s.size) (w : World) (rt : ByteArray) (rn : Bool) (ht : strings_Trim.f s digits = some rt) (hn : PNum.semver_number.f s = some rn) :
    Calls Tryz.prog 63 #[.string s] w (MarkPost s rt rn w) := by
  have e0 : (s.toList == ([] : List UInt8)) = false := by rw [toList_nil_iff]; exact beq_eq_false_iff_ne.2 (by omega)
  have e1 : decide (10 < (s.size : Int)) = false := by simp; omega
  have HT := Lib.hid (fun W => strings_Trim.calls s digits rt W ht)
  have HN := Lib.hid (fun W => PNum.semver_number.calls s rn W hn)
  have HB := Lib.hid (below_bytesWorld w 5 s)
  have HC := Lib.hid (fun j (hj : j < s.size) => Lib.bytesWorld_cell w 5 s j hj)
  clear ht hn
  have hcv : ∀ W : World, (convert 9 102 (.string s)).run Tryz.prog W = .ok (.slice (some ⟨W.heap.size, 0, none⟩) s.size (grownCap W s.size 0 5)) (Lib.bytesWorld W 5 s) := fun W => Lib.run_convert_string_bytes W 9 102 5 s Tryz.underlying9 Tryz.underlying102 Tryz.underlying5
  go_enter Tryz.func63, Tryz.ntmps63
  go_wp2_with fail
  go_loop [15] (fun i => ∃ k : Nat, k ≤ s.size ∧ i = .int .i64 k ∧ Hid (∀ j, j < k → okB (at8 s j) = true)) (fun i => s.size - (intOf i).toNat)
  case atStart => exact ⟨0, Nat.zero_le _, rfl, Lib.hid (fun j hj => absurd hj (Nat.not_lt_zero _))⟩
  case round =>
    clear hcv
    obtain ⟨k, hk, rfl, HA⟩ := hrel
    by_cases hlt : k < s.size
    · have hc := HC.out k hlt
      obtain ⟨c, HE⟩ : ∃ c : Nat, Hid (at8 s k = c) := ⟨_, Lib.hid rfl⟩
      rw [show (s.data.toList.getD k 0).toNat = c from HE.out] at hc
      have hlt' : decide ((k : Int) < (s.size : Int)) = true := by simp; omega
      have stop : okB c = false → MarkPost s rt rn w (.returned (.bool false)) (Lib.bytesWorld w 5 s) := fun hb =>
        ⟨false, ⟨rfl, HB.out⟩, .inr ⟨(fun h => by have := h k hlt; rw [HE.out, hb] at this; exact Bool.noConfusion this), rfl⟩⟩
      have go : okB c = true → Hid (∀ j, j < k + 1 → okB (at8 s j) = true) := fun hb => Lib.hid (fun j hj => by
        by_cases e : j = k
        · rw [e, HE.out]; exact hb
        · exact HA.out j (by omega))
      by_cases h48 : 48 ≤ c
      · have d1 : decide ((48 : Int) ≤ (c : Int)) = true := by simp; omega
        by_cases h57 : c ≤ 57
        · have d2 : decide ((c : Int) ≤ 57) = true := by simp; omega
          have g := go (by simp [okB]; omega)
          clear go stop h48 h57
          go_wp2_with fail
          exact ⟨⟨k + 1, by omega, by go_num, g⟩, by simp [intOf]; omega⟩
        · have d2 : decide ((c : Int) ≤ 57) = false := by simp; omega
          by_cases h97 : 97 ≤ c
          · have d3 : decide ((97 : Int) ≤ (c : Int)) = true := by simp; omega
            by_cases h122 : c ≤ 122
            · have d4 : decide ((c : Int) ≤ 122) = true := by simp; omega
              have g := go (by simp [okB]; omega)
              clear go stop h48 h57 h97 h122
              go_wp2_with fail
              exact ⟨⟨k + 1, by omega, by go_num, g⟩, by simp [intOf]; omega⟩
            · have d4 : decide ((c : Int) ≤ 122) = false := by simp; omega
              have g := Lib.hid (stop (by simp [okB]; omega))
              clear go stop h48 h57 h97 h122
              go_wp2_with fail
              go_ret
              exact g.out
          · have d3 : decide ((97 : Int) ≤ (c : Int)) = false := by simp; omega
            have g := Lib.hid (stop (by simp [okB]; omega))
            clear go stop h48 h57 h97
            go_wp2_with fail
            go_ret
            exact g.out
      · have d1 : decide ((48 : Int) ≤ (c : Int)) = false := by simp; omega
        have d3 : decide ((97 : Int) ≤ (c : Int)) = false := by simp; omega
        have g := Lib.hid (stop (by simp [okB]; omega))
        clear go stop h48
        go_wp2_with fail
        go_ret
        exact g.out
    · have hlt' : decide ((k : Int) < (s.size : Int)) = false := by simp; omega
      have hall : Hid (allOk s) := Lib.hid (fun j hj => HA.out j (by omega))
      have HT2 := HT.out (Lib.bytesWorld w 5 s)
      have HT3 := Lib.hid HT2
      clear HT2 HC
      by_cases hne : rt.toList = []
      · have e2 : (rt.toList != ([] : List UInt8)) = false := by simp [hne]
        have e3 : rt.toList.isEmpty = true := by simp [hne]
        clear hne
        go_wp2_with fail
        refine HT3.out.mono ?_
        rintro e w1 ⟨rfl, hb1⟩
        go_wp2_with fail
        refine (HN.out w1).mono ?_
        rintro e w2 ⟨rfl, hb2⟩
        go_wp2_with fail
        go_ret
        exact ⟨rn, ⟨rfl, HB.out.trans ((hb1.trans (hb2.mono hb1.size)).mono HB.out.size)⟩, .inl ⟨hall.out, by rw [e2]; simp⟩⟩
      · have e2 : (rt.toList != ([] : List UInt8)) = true := by simp [hne]
        have e3 : rt.toList.isEmpty = false := by simp [hne]
        clear hne
        go_wp2_with fail
        refine HT3.out.mono ?_
        rintro e w1 ⟨rfl, hb1⟩
        go_wp2_with fail
        go_ret
        exact ⟨true, ⟨rfl, HB.out.trans (hb1.mono HB.out.size)⟩, .inl ⟨hall.out, by rw [e2]; simp⟩⟩
end Go.Proofs.YtckeeefeiljamaaGreatDoor
set_option linter.unusedSimpArgs false
set_option linter.unusedVariables false
namespace Go.Proofs.YtckeeefeiljamaaGreatDoor
open Go.RowKit Go.Proofs.YtckeeefeiljamaaGreatDoorW.PrintWords Go.Proofs.YtckeeefeiljamaaGreatDoorW.PrintLast

def isDig (b : UInt8) : Bool := decide (48 ≤ b.toNat) && decide (b.toNat ≤ 57)
def numL (l : List UInt8) : Bool := !l.isEmpty && decide (l.length ≤ 6) && !(decide (l.head? = some 48) && decide (l.length ≠ 1)) && l.all isDig
def markL (l : List UInt8) : Bool := !l.isEmpty && decide (l.length ≤ 10) && l.all (fun b => okB b.toNat) && (!(l.all isDig) || numL l)

theorem digits_contains (b : UInt8) : digits.data.toList.contains b = isDig b := by
  have h : ∀ n : Fin 256, digits.data.toList.contains (UInt8.ofNat n.1) = isDig (UInt8.ofNat n.1) := by decide +kernel
  have := h ⟨b.toNat, b.toNat_lt⟩
  simpa using this
theorem dropWhile_nil {α : Type} (p : α → Bool) (l : List α) : (l.dropWhile p = []) ↔ l.all p = true := by
  induction l with
  | nil => simp
  | cons x l ih =>
    by_cases h : p x = true
    · simp [List.dropWhile_cons, h, ih]
    · simp [List.dropWhile_cons, h]
theorem all_of_dropWhile {α : Type} (p : α → Bool) (l : List α) (h : (l.dropWhile p).all p = true) : l.all p = true := by
  induction l with
  | nil => rfl
  | cons x l ih =>
    by_cases hx : p x = true
    · rw [List.dropWhile_cons, if_pos hx] at h
      simp [hx]; simpa using ih h
    · rw [List.dropWhile_cons, if_neg hx] at h
      exact h
theorem trim_nil (l : List UInt8) : (Lib.trimS l digits.data.toList = []) ↔ l.all isDig = true := by
  have hf : (fun b => digits.data.toList.contains b) = isDig := funext digits_contains
  unfold Lib.trimS Lib.trimLeftS Lib.trimRightS
  rw [hf, dropWhile_nil]
  constructor
  · intro h
    rw [List.all_reverse] at h
    have := all_of_dropWhile isDig l.reverse h
    rwa [List.all_reverse] at this
  · intro h
    have h2 : l.reverse.dropWhile isDig = [] := (dropWhile_nil _ _).2 (by rw [List.all_reverse]; exact h)
    rw [h2]; rfl
theorem trim_some (s : ByteArray) (h : s.size ≤ 9223372036854775807) : strings_Trim.f s digits = some (toBytes (Lib.trimS s.data.toList digits.data.toList)) := by
  unfold strings_Trim.f; rw [if_pos ⟨h, by decide, by decide⟩]
theorem toBytes_toList (l : List UInt8) : (toBytes l).toList = l := by rw [ba_toList]; simp [toBytes]
theorem trim_empty (s : ByteArray) : ((toBytes (Lib.trimS s.data.toList digits.data.toList)).toList == ([] : List UInt8)) = s.data.toList.all isDig := by
  rw [toBytes_toList, Bool.eq_iff_iff, beq_iff_eq, trim_nil]

theorem bt_zero (s : ByteArray) (h : 0 < s.size) : bt s 0 = ((s.data.toList.getD 0 0).toNat : Int) := by
  unfold bt
  have : (0 : Int).toNat < s.size := by simpa using h
  rw [dif_pos this]
  have h2 : 0 < s.data.toList.length := by rw [data_length]; exact h
  simp [List.getD_eq_getElem?_getD, List.getElem?_eq_getElem h2]
  rfl

theorem number_some (s : ByteArray) : PNum.semver_number.f s = some (numL s.data.toList) := by
  unfold PNum.semver_number.f
  have hd : (⟨#[48, 49, 50, 51, 52, 53, 54, 55, 56, 57]⟩ : ByteArray) = digits := rfl
  rw [hd, ba_toList]
  have hl := data_length s
  by_cases h0 : s.data.toList = []
  · rw [if_pos h0, h0]; rfl
  rw [if_neg h0]
  have hpos : 0 < s.size := by rw [← hl]; exact List.length_pos_iff.2 h0
  by_cases h6 : (s.size : Int) > 6
  · rw [if_pos h6]
    have : decide (s.data.toList.length ≤ 6) = false := by rw [hl]; simp; omega
    unfold numL; rw [this]; simp only [Bool.and_false, Bool.false_and]
  rw [if_neg h6, if_pos (by omega), trim_some s (by omega)]
  simp only [Option.bind_some, trim_empty, bt_zero s hpos]
  generalize hL : s.data.toList = l at *
  have hle : decide (l.length ≤ 6) = true := by simp; omega
  cases l with
  | nil => exact absurd rfl h0
  | cons b t =>
    have hb : (b.toNat = 48) ↔ b = 48 := ⟨fun h => by rw [← UInt8.toNat_inj]; exact h, fun h => by rw [h]; rfl⟩
    have hgd : (((b :: t).getD 0 0).toNat : Int) = (b.toNat : Int) := rfl
    rw [hgd]
    by_cases h48 : b = 48
    · rw [if_pos (by rw [h48]; rfl)]
      subst h48
      by_cases ht : t = []
      · subst ht; rw [if_pos rfl]; simp [numL]
      · rw [if_neg (by simpa using ht)]
        simp [numL, ht]
    · rw [if_neg (fun h => h48 (hb.1 (by omega)))]
      simp only [numL, hle]
      simp [h48]

theorem allOk_iff (s : ByteArray) : allOk s ↔ s.data.toList.all (fun b => okB b.toNat) = true := by
  unfold allOk at8
  rw [List.all_eq_true]
  constructor
  · intro h b hb
    obtain ⟨j, hj, rfl⟩ := List.mem_iff_getElem.1 hb
    have := h j (by rw [← data_length]; exact hj)
    rwa [List.getD_eq_getElem?_getD, List.getElem?_eq_getElem hj] at this
  · intro h j hj
    have hj' : j < s.data.toList.length := by rw [data_length]; exact hj
    rw [List.getD_eq_getElem?_getD, List.getElem?_eq_getElem hj']
    exact h _ (List.getElem_mem hj')

theorem mark_any (s : ByteArray) (w : World) :
    Calls Tryz.prog 63 #[.string s] w fun e w' => e = .returned (.bool (markL s.data.toList)) ∧ Below w.heap.size w w' := by
  have hl := data_length s
  by_cases h : s.size = 0 ∨ 10 < s.size
  · refine (mark_off s h w).mono fun e w' ⟨he, hb⟩ => ⟨?_, hb⟩
    have : markL s.data.toList = false := by
      rcases h with h | h
      · rw [List.eq_nil_of_length_eq_zero (hl.trans h)]; rfl
      · have : decide (s.data.toList.length ≤ 10) = false := by rw [hl]; simp; omega
        unfold markL; rw [this]; simp only [Bool.and_false, Bool.false_and]
    rw [this]; exact he
  · refine (mark_loop s (by omega) (by omega) w _ _ (trim_some s (by omega)) (number_some s)).mono fun e w' ⟨b, ⟨he, hb⟩, hc⟩ => ⟨?_, hb⟩
    rw [he]
    congr 2
    have hne : s.data.toList.isEmpty = false := by
      rw [← Bool.not_eq_true, List.isEmpty_iff, ← List.length_eq_zero_iff]; omega
    have hle : decide (s.data.toList.length ≤ 10) = true := by rw [hl]; simp; omega
    rcases hc with ⟨ha, rfl⟩ | ⟨ha, rfl⟩
    · have e : ((toBytes (Lib.trimS s.data.toList digits.data.toList)).toList != ([] : List UInt8)) = !(s.data.toList.all isDig) := by rw [bne, trim_empty]
      rw [e]; simp only [markL, hne, hle, (allOk_iff s).1 ha]; simp
    · have : s.data.toList.all (fun b => okB b.toNat) = false := by rw [← Bool.not_eq_true]; exact fun h => ha ((allOk_iff s).2 h)
      simp only [markL, this]; simp
end Go.Proofs.YtckeeefeiljamaaGreatDoor
set_option linter.unusedSimpArgs false
set_option linter.unusedVariables false
namespace Go.Proofs.YtckeeefeiljamaaGreatDoor
open Go.RowKit Go.Shelf Go.Proofs.Cuts Go.Proofs.YtckeeefeiljamaaGreatDoorW.PrintWords
attribute [local go_sem] Oper.semAt_some

/-- The pieces of a text. -/
def pieces (sep s : ByteArray) : List ByteArray := Lib.splitB sep 0 (Lib.countB s sep) s
theorem pieces_miss (sep s : ByteArray) (h : Lib.indexB s sep = -1) : pieces sep s = [s] := Lib.splitB_miss _ _ _ _ h
theorem pieces_hit (sep s : ByteArray) (h1 : 1 ≤ sep.size) (i : Nat) (h : Lib.indexB s sep = i) : pieces sep s = s.extract 0 i :: pieces sep (s.extract (i + sep.size) s.size) := by
  unfold pieces
  rw [Lib.countB_hit s sep i h1 h, Nat.add_comm 1, Lib.splitB_hit _ _ _ _ i h]
  rfl

def seqW (s sep : ByteArray) (w : World) : World := ((w.alloc (.cells #[.string s] 9)).alloc (.cells #[.string sep] 9)).alloc (.cells #[.int .i64 0] 3)
def seqV (B : Nat) : Value := .func (.func 73) #[] #[.pointer (some ⟨B + 1, 0, none⟩), .pointer (some ⟨B, 0, none⟩), .pointer (some ⟨B + 2, 0, none⟩)]

set_option maxRecDepth 100000 in
theorem splitSeq_any (s sep : ByteArray) (w : World) :
    Calls Tryz.prog 53 #[.string s, .string sep, .int .i64 0] w fun e w' => e = .returned (seqV w.heap.size) ∧ w' = seqW s sep w := by
  go_enter Tryz.func53, Tryz.ntmps53
  go_wp2_with fail
  go_ret
  exact ⟨rfl, rfl⟩
set_option maxRecDepth 100000 in
theorem SplitSeq_any (s sep : ByteArray) (w : World) :
    Calls Tryz.prog 28 #[.string s, .string sep] w fun e w' => e = .returned (seqV w.heap.size) ∧ w' = seqW s sep w := by
  go_enter Tryz.func28, Tryz.ntmps28
  go_wp2_with fail
  refine (splitSeq_any s sep w).mono ?_
  rintro e w' ⟨rfl, rfl⟩
  go_wp2_with fail
  go_ret
  exact ⟨rfl, rfl⟩

/-- What holds between two rounds: k pieces have come, the box holds the rest. -/
def IterRel (B : Nat) (s sep : ByteArray) (J : Nat → World → Prop) (m : Int) (wr : World) : Prop :=
  ∃ k r, wr.heap[B]? = some (.cells #[.string r] 9 (0, 0)) ∧ J k wr ∧ ((pieces sep s).map Value.string).drop k = (pieces sep r).map Value.string ∧ r.size ≤ s.size ∧
    wr.cell? ⟨B + 1, 0, none⟩ = some (.string sep) ∧ wr.cell? ⟨B + 2, 0, none⟩ = some (.int .i64 0) ∧ wr.cell? ⟨2, 0, none⟩ = some (.int .i64 m)
def left (B : Nat) (wr : World) : Nat := match wr.cell? ⟨B, 0, none⟩ with | some (.string r) => r.size | _ => 0
theorem left_eq {B : Nat} {wr : World} {r : ByteArray} (h : wr.heap[B]? = some (.cells #[.string r] 9 (0, 0))) : left B wr = r.size := by simp [left, World.cell?, h]

set_option maxHeartbeats 2000000 in
set_option maxRecDepth 100000 in
theorem split_iter (n : Nat) (hn : 1 ≤ n) (l B : Nat) (hLB : 6 ≤ B) (s sep : ByteArray) (hs : s.size < 4294967281) (h1 : 1 ≤ sep.size) (J Jx : Nat → World → Prop) (W : World)
    (hJ : HoldB B J) (hJx : HoldB B Jx)
    (hY : ∀ k W1 v, J k W1 → ((pieces sep s).map Value.string)[k]? = some v → YieldAt Fence.wide (n - 1) Tryz.prog l #[v] W1 fun e W' => (e = .returned (.bool true) ∧ J (k + 1) W' ∧ Keeps 6 B W1 W') ∨ (e = .returned (.bool false) ∧ Jx (k + 1) W'))
    (hb0 : W.heap[B]? = some (.cells #[.string s] 9 (0, 0))) (hb1 : W.heap[B + 1]? = some (.cells #[.string sep] 9 (0, 0))) (hb2 : W.heap[B + 2]? = some (.cells #[.int .i64 0] 3 (0, 0)))
    (m : Int) (hm : W.cell? ⟨2, 0, none⟩ = some (.int .i64 m)) (h0 : J 0 W) :
    CallsIn Fence.wide n Tryz.prog 73 (#[.func (.yield l) #[] #[]] ++ #[.pointer (some ⟨B + 1, 0, none⟩), .pointer (some ⟨B, 0, none⟩), .pointer (some ⟨B + 2, 0, none⟩)]) W fun e W' => (∃ v, e = .returned v) ∧
      (J ((pieces sep s).map Value.string).length W' ∨ ∃ k, Jx k W') := by
  refine callsIn_of_wp Tryz.func73 rfl trivial ?_ rfl
  simp only [Tryz.ntmps73, List.size_toArray, List.length_cons, List.length_nil, Nat.reduceAdd, Nat.reduceSub, Array.replicate_succ, Array.replicate_zero, List.push_toArray, List.append_toArray, List.nil_append, List.cons_append]
  have c1 : W.cell? ⟨B + 1, 0, none⟩ = some (.string sep) := by simp [World.cell?, hb1]
  have c1' : W.cell? ⟨B + 1, 0, none⟩ = some (.string sep) := c1
  have c2' : W.cell? ⟨B + 2, 0, none⟩ = some (.int .i64 0) := by simp [World.cell?, hb2]
  have hne : ((sep.size : Int) == 0) = false := beq_eq_false_iff_ne.2 (by omega)
  clear hb1
  gi_wp2_with fail
  gi_loopw [7] (fun _ wr => IterRel B s sep J m wr) (fun _ wr => left B wr)
  case atStart => exact ⟨0, s, hb0, h0, rfl, Nat.le_refl _, c1', c2', hm⟩
  case round =>
    obtain ⟨k, r, hr0, hJk, hd, hle, g1, g2, gm⟩ := hrel
    clear c1 c1' c2' hm hb0 hb2 h0
    have cr : wr.cell? ⟨B, 0, none⟩ = some (.string r) := by simp [World.cell?, hr0]
    have fr : wr.frozen? ⟨B, 0, none⟩ = false := by simp [World.frozen?, hr0]
    have HD := Lib.hid hd
    have HR0 := Lib.hid hr0
    have HL := Lib.hid (left_eq hr0)
    clear hd hr0
    by_cases hi : Lib.indexB r sep = -1
    · have hx : Lib.index r.data.toList sep.data.toList = -1 := hi
      have hcall := Lib.hid (Tryz.strings_Index r sep m wr (by omega) gm)
      have hp := pieces_miss sep r hi
      have HN : Hid (k + 1 = ((pieces sep s).map Value.string).length) := Lib.hid (by
        have := congrArg List.length HD.out
        rw [hp] at this; simp at this
        have hlt : k < ((pieces sep s).map Value.string).length := by rw [List.length_map]; omega
        rw [List.length_map]; omega)
      obtain ⟨fn, tmps, assign, body, hy, hR⟩ := hY k wr (.string r) hJk (by have := congrArg (fun l => l[0]?) HD.out; simpa [hp] using this)
      clear hi hp
      have HX := Lib.hid hx
      clear hx
      gi_wp2_with fail
      refine ⟨trivial, (callsIn_wide.2 hcall.out).mono ?_⟩
      rintro e w' ⟨rfl, rfl⟩
      rw [HX.out]
      gi_wp2_with fail
      refine hR.mono ?_
      rintro e W3 (⟨rfl, hJ3, hk3⟩ | ⟨rfl, hJx3⟩)
      · gi_wp2_with fail
        refine bodyPost_end (results_none rfl _ _ _) rfl ?_
        exact ⟨⟨_, rfl⟩, .inl (by rw [← HN.out]; exact hJ3)⟩
      · gi_wp2_with fail
        refine bodyPost_end (results_none rfl _ _ _) rfl ?_
        exact ⟨⟨_, rfl⟩, .inr ⟨_, hJx3⟩⟩
    · obtain ⟨i, hi', hib⟩ : ∃ i : Nat, Lib.indexB r sep = i ∧ i + sep.size ≤ r.size := (Lib.indexB_cases r sep).resolve_left hi
      have hx : Lib.index r.data.toList sep.data.toList = (i : Int) := hi'
      have hcall := Lib.hid (Tryz.strings_Index r sep m wr (by omega) gm)
      have hp := pieces_hit sep r h1 i hi'
      have HN : Hid (((pieces sep s).map Value.string).drop (k + 1) = (pieces sep (r.extract (i + sep.size) r.size)).map Value.string) := Lib.hid (by
        have := congrArg (fun l => l.drop 1) HD.out
        simp only [hp, List.map_cons, List.drop_succ_cons, List.drop_zero, List.drop_drop] at this
        rw [← this])
      have hY' := hY k wr (.string (r.extract 0 i)) hJk (by have := congrArg (fun l => l[0]?) HD.out; simpa [hp] using this)
      obtain ⟨fn, tmps, assign, body, hy, hR⟩ := hY'
      have HX := Lib.hid hx
      clear hi hi' hp hx
      gi_wp2_with fail
      refine ⟨trivial, (callsIn_wide.2 hcall.out).mono ?_⟩
      rintro e w' ⟨rfl, rfl⟩
      rw [HX.out]
      gi_wp2_with fail
      refine hR.mono ?_
      rintro e W3 (⟨rfl, hJ3, hk3⟩ | ⟨rfl, hJx3⟩)
      · have hr3 : W3.heap[B]? = some (.cells #[.string r] 9 (0, 0)) := (hk3.block B (.inr (.inl ⟨Nat.le_refl _, by omega⟩)) (by have := (Array.getElem?_eq_some_iff.1 HR0.out).1; exact this)).trans HR0.out
        have cr3 : W3.cell? ⟨B, 0, none⟩ = some (.string r) := by simp [World.cell?, hr3]
        have fr3 : W3.frozen? ⟨B, 0, none⟩ = false := by simp [World.frozen?, hr3]
        have g13 := hk3.cell (p := ⟨B + 1, 0, none⟩) (.inr ⟨Nat.le_succ _, by show B + 1 < B + 3; omega⟩) g1
        have g23 := hk3.cell (p := ⟨B + 2, 0, none⟩) (.inr ⟨by show B ≤ B + 2; omega, by show B + 2 < B + 3; omega⟩) g2
        have gm3 := hk3.cell (p := ⟨2, 0, none⟩) (.inl (by show 2 < 6; omega)) gm
        have HR3 := Lib.hid hr3
        clear hr3 hk3
        gi_wp2_with fail
        have hrel3 : IterRel B s sep J m (W3.setCell ⟨B, 0, none⟩ (.string (r.extract (i + sep.size) r.size))) :=
          ⟨k + 1, _, one_setCell HR3.out, hJ _ _ _ hJ3 (grownBy_setCell' _ _ _), HN.out, by rw [ByteArray.size_extract]; omega,
            (World.cell?_setCell_other _ _ _ _ (by simp)).trans g13, (World.cell?_setCell_other _ _ _ _ (by simp)).trans g23, (World.cell?_setCell_other _ _ _ _ (by intro e; cases e; omega)).trans gm3⟩
        have hme : left B (W3.setCell ⟨B, 0, none⟩ (.string (r.extract (i + sep.size) r.size))) < left B w' := by rw [left_eq (one_setCell HR3.out), HL.out, ByteArray.size_extract]; omega
        exact ⟨hrel3, hme⟩
      · gi_wp2_with fail
        refine bodyPost_ret (results_none rfl _ _ _) rfl ?_
        exact ⟨⟨_, rfl⟩, .inr ⟨_, hJx3⟩⟩

def seqB (B : Nat) : Array Value := #[.pointer (some ⟨B + 1, 0, none⟩), .pointer (some ⟨B, 0, none⟩), .pointer (some ⟨B + 2, 0, none⟩)]
theorem seqW_at (s sep : ByteArray) (w : World) : (seqW s sep w).heap[w.heap.size]? = some (.cells #[.string s] 9 (0, 0)) ∧
    (seqW s sep w).heap[w.heap.size + 1]? = some (.cells #[.string sep] 9 (0, 0)) ∧ (seqW s sep w).heap[w.heap.size + 2]? = some (.cells #[.int .i64 0] 3 (0, 0)) ∧ (seqW s sep w).heap.size = w.heap.size + 3 := by
  have e2 : ((w.alloc (.cells #[.string s] 9)).alloc (.cells #[.string sep] 9)).heap.size = w.heap.size + 2 := by simp
  have e1 : (w.alloc (.cells #[.string s] 9)).heap.size = w.heap.size + 1 := by simp
  unfold seqW
  refine ⟨?_, ?_, ?_, by simp⟩
  · rw [Below.heap_alloc _ _ _ (by omega), Below.heap_alloc _ _ _ (by omega)]; exact World.alloc_heap_new _ _
  · rw [Below.heap_alloc _ _ _ (by omega), ← e1]; exact World.alloc_heap_new _ _
  · rw [← e2]; exact World.alloc_heap_new _ _
theorem split_Iter (n : Nat) (hn : 1 ≤ n) (s sep : ByteArray) (hs : s.size < 4294967281) (h1 : 1 ≤ sep.size) (w : World) (hG : Gw w) :
    Iter Fence.wide n Tryz.prog 73 (seqB w.heap.size) 6 w.heap.size ((pieces sep s).map Value.string) (seqW s sep w) := by
  intro l J Jx W hk hJ hJx hY h0
  obtain ⟨a0, a1, a2, az⟩ := seqW_at s sep w
  obtain ⟨m, hm⟩ := hG.most
  have hb := hG.big
  have hm' : (seqW s sep w).cell? ⟨2, 0, none⟩ = some (.int .i64 m) := pw_cell_below ((((Below.refl _ w).alloc (Nat.le_refl _) _).alloc (by simp) _).alloc (by simp; omega) _) hm
  exact split_iter n hn l w.heap.size (by omega) s sep hs h1 J Jx W hJ hJx hY
    ((hk.block _ (.inr (.inl ⟨Nat.le_refl _, by omega⟩)) (by rw [az]; omega)).trans a0) ((hk.block _ (.inr (.inl ⟨Nat.le_succ _, by omega⟩)) (by rw [az]; omega)).trans a1) ((hk.block _ (.inr (.inl ⟨by omega, by omega⟩)) (by rw [az]; omega)).trans a2)
    m (hk.cell (.inl (by show 2 < 6; omega)) hm') h0
end Go.Proofs.YtckeeefeiljamaaGreatDoor
set_option linter.unusedSimpArgs false
set_option linter.unusedVariables false
namespace Go.Proofs.YtckeeefeiljamaaGreatDoor
open Go.RowKit Go.Shelf Go.Proofs.Cuts Go.Proofs.YtckeeefeiljamaaGreatDoorW.PrintWords
attribute [local go_sem] Oper.semAt_some

def dot : ByteArray := ⟨#[46]⟩
def preB (s : ByteArray) : Bool := decide ((pieces dot s).length ≤ 4) && (pieces dot s).all (fun p => markL p.data.toList)

/-- Between two rounds: k pieces have come, all marks. -/
structure PreI (s : ByteArray) (w : World) (k : Nat) (W : World) : Prop where
  le : k ≤ 4
  all : ((pieces dot s).take k).all (fun p => markL p.data.toList) = true
  r : W.heap[w.heap.size]? = some (.cells #[.bool false] 4 (0, 0))
  n : W.heap[w.heap.size + 1]? = some (.cells #[.int .i64 k] 3 (0, 0))
  bel : Below w.heap.size w W
/-- A round has said 'no more'. -/
structure PreX (s : ByteArray) (w : World) (W : World) : Prop where
  no : preB s = false
  r : W.heap[w.heap.size]? = some (.cells #[.bool false] 4 (0, 0))
  bel : Below w.heap.size w W

theorem harm_block {b E r : Nat} {W W' : World} {o : Obj} (h : Harm b E W W') (hr : W.heap[r]? = some o) (h1 : r ≠ b) (h2 : o.isCells = true) : W'.heap[r]? = some o := by
  obtain ⟨row, hg, hrow⟩ := h
  refine (hg.block r (Array.getElem?_eq_some_iff.1 hr).1 (fun e => ?_)).trans hr
  rcases hrow r e.symm with e1 | ⟨_, o', ho', hc⟩
  · exact h1 e1
  · rw [hr] at ho'; cases ho'; rw [h2] at hc; cases hc
theorem harm_below {b E B : Nat} {w W W' : World} (h : Harm b E W W') (hb : Below B w W) (hB : B ≤ W.heap.size) (h1 : B ≤ b) (h2 : B ≤ E) : Below B w W' := by
  obtain ⟨row, hg, hrow⟩ := h
  refine hb.grown hg hB (fun k e => ?_)
  rcases hrow k e with e1 | ⟨e1, _⟩ <;> omega

set_option maxHeartbeats 2000000 in
set_option maxRecDepth 100000 in
theorem pre_any (s : ByteArray) (hs : s.size < 4294967281) (w : World) (hG : Gw w) :
    Calls Tryz.prog 40 #[.string s] w fun e w' => e = .returned (.bool (preB s)) ∧ Below w.heap.size w w' := by
  refine (callsIn_wide (n := 9)).1 ?_
  refine callsIn_of_wp_marks Tryz.func40 rfl trivial ?_ rfl
  simp only [Tryz.ntmps40, List.size_toArray, List.length_cons, List.length_nil, Nat.reduceAdd, Nat.reduceSub, Array.replicate_succ, Array.replicate_zero, List.push_toArray, List.append_toArray, List.nil_append, List.cons_append]
  have HG := Lib.hid hG
  clear hG
  gi_wp2_with fail
  refine ⟨trivial, (callsIn_wide.2 (SplitSeq_any s dot _)).mono ?_⟩
  rintro e w' ⟨rfl, rfl⟩
  gi_wp2_with fail
  have hz : ((w.alloc (.cells #[.bool false] 4)).alloc (.cells #[.int .i64 0] 3)).heap.size = w.heap.size + 2 := by simp
  have hbel0 : Below w.heap.size w ((w.alloc (.cells #[.bool false] 4)).alloc (.cells #[.int .i64 0] 3)) := ((Below.refl _ w).alloc (Nat.le_refl _) _).alloc (by simp) _
  have hr0 : ((w.alloc (.cells #[.bool false] 4)).alloc (.cells #[.int .i64 0] 3)).heap[w.heap.size]? = some (.cells #[.bool false] 4 (0, 0)) := by
    rw [Below.heap_alloc _ _ _ (by simp)]; exact World.alloc_heap_new _ _
  have hn0 : ((w.alloc (.cells #[.bool false] 4)).alloc (.cells #[.int .i64 0] 3)).heap[w.heap.size + 1]? = some (.cells #[.int .i64 0] 3 (0, 0)) := by
    have := World.alloc_heap_new (w.alloc (.cells #[.bool false] 4)) (.cells #[.int .i64 0] 3); rwa [World.size_alloc] at this
  generalize hW0 : (w.alloc (.cells #[.bool false] 4)).alloc (.cells #[.int .i64 0] 3) = W0 at *
  have hz' : W0.heap.size = w.heap.size + 1 + 1 := hz
  have hit := split_Iter 8 (by omega) s dot hs (by decide) W0 (HG.out.below hbel0)
  obtain ⟨a0, a1, a2, az⟩ := seqW_at s dot W0
  have hbW : Below W0.heap.size W0 (seqW s dot W0) := (((Below.refl _ W0).alloc (Nat.le_refl _) _).alloc (by simp) _).alloc (by simp; omega) _
  rw [hz'] at hit a0 a1 a2 az hbW
  refine range_cuts rfl (by omega) (gf := 73) (lb := seqB (w.heap.size + 1 + 1)) rfl trivial (enters_of Tryz.func73 (by kernel_rfl) rfl) (L := 6) (B := w.heap.size + 1 + 1) (by rw [az]; omega)
    hit rfl
    (fun k W => PreI s w k W) (fun c k W => c = .ret ∧ PreX s w W)
    ?hI ?hIx ?h0 (fun v => { tmps := #[.string s, undef, .pointer (some ⟨w.heap.size, 0, none⟩), .pointer (some ⟨w.heap.size + 1, 0, none⟩), v, .string s, seqV (w.heap.size + 1 + 1), v, undef, undef, undef, undef, undef, undef, undef, undef, undef], defers := [] }) ?assign ?body ?done ?stop
  case hI =>
    intro k W W' h hh
    exact ⟨h.le, h.all, harm_block hh h.r (by omega) rfl, harm_block hh h.n (by omega) rfl, harm_below hh h.bel h.bel.size (by omega) (by omega)⟩
  case hIx =>
    rintro c k W W' ⟨rfl, h⟩ hh
    exact ⟨rfl, h.no, harm_block hh h.r (by omega) rfl, harm_below hh h.bel h.bel.size (by omega) (by omega)⟩
  case h0 =>
    exact ⟨by omega, rfl, (hbW.block _ (by omega)).trans hr0, (hbW.block _ (by omega)).trans hn0, hbel0.trans (hbW.mono (by omega))⟩
  case assign =>
    intro l v W K hK
    gi_wp2
    exact hK
  case body =>
    rintro l k v W hI hv hsz - -
    obtain ⟨p, rfl, hp⟩ : ∃ p, v = .string p ∧ (pieces dot s)[k]? = some p := by
      rw [List.getElem?_map] at hv
      obtain ⟨p, h1, h2⟩ := Option.map_eq_some_iff.1 hv
      exact ⟨p, h2.symm, h1⟩
    have cn := cell_of_one hI.n
    have fn := free_of_one hI.n
    have cr := cell_of_one hI.r
    have fr := free_of_one hI.r
    have hk4 := hI.le
    have HI := Lib.hid hI
    have hbig := HG.out.big
    have kn : ∀ v, Keeps 6 (w.heap.size + 1 + 1) W (W.setCell ⟨w.heap.size + 1, 0, none⟩ v) := fun v => Keeps.setCell W _ v (by show 6 ≤ w.heap.size + 1; omega) (.inl (by show w.heap.size + 1 < _; omega))
    have hlen : k < (pieces dot s).length := (List.getElem?_eq_some_iff.1 hp).1
    have hWb : ∀ v, Below w.heap.size w (W.setCell ⟨w.heap.size + 1, 0, none⟩ v) := fun v => hI.bel.setCell (p := ⟨w.heap.size + 1, 0, none⟩) (by show w.heap.size ≤ w.heap.size + 1; omega) _
    have r1 : ∀ v, (W.setCell ⟨w.heap.size + 1, 0, none⟩ v).heap[w.heap.size]? = some (.cells #[.bool false] 4 (0, 0)) := fun v => (Below.heap_setCell W ⟨w.heap.size + 1, 0, none⟩ _ _ (by show w.heap.size ≠ w.heap.size + 1; omega)).trans hI.r
    have n1 : ∀ v, (W.setCell ⟨w.heap.size + 1, 0, none⟩ v).heap[w.heap.size + 1]? = some (.cells #[v] 3 (0, 0)) := fun v => one_setCell hI.n
    have KN := Lib.hid kn
    have HP := Lib.hid hp
    have HR1 := Lib.hid r1
    have HN1 := Lib.hid n1
    have HWB := Lib.hid hWb
    clear kn hp r1 n1 hWb hI a0 a1 a2 az hit hz hz' hbW hr0 hn0 hW0 hv hbel0
    by_cases h4 : k = 4
    · subst h4
      have hno : Hid (preB s = false) := Lib.hid (by
        have : decide ((pieces dot s).length ≤ 4) = false := by simp; omega
        simp [preB, this])
      gi_wp2_with fail
      refine ⟨trivial, ?_⟩
      have cr5 := cell_of_one (HR1.out (.int .i64 5))
      have fr5 := free_of_one (HR1.out (.int .i64 5))
      gi_wp2_with fail
      exact ⟨(KN.out _).trans (Keeps.setCell _ _ _ (by show 6 ≤ w.heap.size; omega) (.inl (by show w.heap.size < _; omega))), rfl, hno.out, one_setCell (HR1.out _), (HWB.out _).setCell (p := ⟨w.heap.size, 0, none⟩) (Nat.le_refl _) _⟩
    · have hk3 : k ≤ 3 := by omega
      have hms := Lib.hid (fun W => mark_any p W)
      have hstep : Hid ((pieces dot s).take (k + 1) = (pieces dot s).take k ++ [p]) := Lib.hid (by rw [List.take_succ_eq_append_getElem hlen]; congr 2; exact (List.getElem?_eq_some_iff.1 HP.out).2)
      have d4 : decide ((4 : Int) < (k : Int) + 1) = false := by simp; omega
      clear h4
      gi_wp2_with fail
      refine ⟨trivial, (CallsIn.inRound l (callsIn_wide.2 (hms.out _))).mono ?_⟩
      rintro e w2 ⟨rfl, hb2⟩
      have HR2 := Lib.hid ((hb2.block _ (by have := (Array.getElem?_eq_some_iff.1 (HR1.out (.int .i64 ((k : Int) + 1)))).1; exact this)).trans (HR1.out (.int .i64 ((k : Int) + 1))))
      have HN2 := Lib.hid ((hb2.block _ (by have := (Array.getElem?_eq_some_iff.1 (HN1.out (.int .i64 ((k : Int) + 1)))).1; exact this)).trans (HN1.out (.int .i64 ((k : Int) + 1))))
      have HK2 : Hid (Keeps 6 (w.heap.size + 1 + 1) W w2) := Lib.hid ((KN.out _).trans (Keeps.below hb2))
      have HB2 : Hid (Below w.heap.size w w2) := Lib.hid ((HWB.out _).trans (hb2.mono (HWB.out _).size))
      clear hb2
      cases hm : markL p.data.toList with
      | true =>
        have HM := Lib.hid hm
        clear hm
        gi_wp2_with fail
        exact ⟨HK2.out, by omega, by rw [hstep.out, List.all_append, HI.out.all]; simp [HM.out], HR2.out, HN2.out, HB2.out⟩
      | false =>
        have hno : Hid (preB s = false) := Lib.hid (by
          have : (pieces dot s).all (fun p => markL p.data.toList) = false := by
            rw [← Bool.not_eq_true, List.all_eq_true]
            intro h
            have := h p (List.mem_of_getElem? HP.out)
            rw [hm] at this; cases this
          simp only [preB, this, Bool.and_false])
        have cr5 := cell_of_one HR2.out
        have fr5 := free_of_one HR2.out
        clear hm
        gi_wp2_with fail
        exact ⟨HK2.out.trans (Keeps.setCell _ _ _ (by show 6 ≤ w.heap.size; omega) (.inl (by show w.heap.size < _; omega))), rfl, hno.out, one_setCell HR2.out, HB2.out.setCell (p := ⟨w.heap.size, 0, none⟩) (Nat.le_refl _) _⟩
  case done =>
    rintro D W hI hK hD
    have cr := cell_of_one hI.r
    have fr := free_of_one hI.r
    have HI := Lib.hid hI
    have HK := Lib.hid hK
    have hDs : w.heap.size + 2 ≤ D := by rw [az] at hD; omega
    clear hI hK hD hit a0 a1 a2 az hbW hr0 hn0 hW0 hz hz'
    gi_wp2
    have hK2 : (W.setCell ⟨w.heap.size, 0, none⟩ (.bool true)).heap[D]? = some (.deferred (some [])) := (Below.heap_setCell W ⟨w.heap.size, 0, none⟩ _ _ (by show D ≠ w.heap.size; omega)).trans HK.out
    have r2 : ((W.setCell ⟨w.heap.size, 0, none⟩ (.bool true)).putObj D (.deferred none)).heap[w.heap.size]? = some (.cells #[.bool true] 4 (0, 0)) := (World.putObj_heap_other (by omega)).trans (one_setCell HI.out.r)
    have c2 := cell_of_one r2
    have hpre : preB s = true := by
      have h1 := HI.out.le
      have h2 := HI.out.all
      rw [List.length_map] at h1 h2
      rw [List.take_of_length_le (Nat.le_refl _)] at h2
      simp only [preB, h2, Bool.and_true, decide_eq_true_eq]; exact h1
    refine ⟨by simp, .inl ⟨_, _, rfl, run_takeDeferred hK2, ?_⟩⟩
    exact ⟨.bool true, by simp [results, Tryz.results40, go_sem, c2], by rw [hpre], (HI.out.bel.setCell (p := ⟨w.heap.size, 0, none⟩) (Nat.le_refl _) _).grown (grownBy_put _ _ _) (by simpa using HI.out.bel.size) (fun j e => by cases e; omega)⟩
  case stop =>
    rintro D c k W ⟨rfl, hX⟩ hK hD
    have cr := cell_of_one hX.r
    have hDs : w.heap.size + 2 ≤ D := by rw [az] at hD; omega
    have HX := Lib.hid hX
    have HK := Lib.hid hK
    clear hX hK hD hit a0 a1 a2 az hbW hr0 hn0 hW0 hz hz'
    gi_wp2
    have r2 : (W.putObj D (.deferred none)).heap[w.heap.size]? = some (.cells #[.bool false] 4 (0, 0)) := (World.putObj_heap_other (by omega)).trans HX.out.r
    have c2 := cell_of_one r2
    refine ⟨by simp, .inl ⟨_, _, rfl, run_takeDeferred HK.out, ?_⟩⟩
    exact ⟨.bool false, by simp [results, Tryz.results40, go_sem, c2], by rw [HX.out.no], HX.out.bel.grown (grownBy_put _ _ _) HX.out.bel.size (fun j e => by cases e; omega)⟩
end Go.Proofs.YtckeeefeiljamaaGreatDoor
set_option linter.unusedSimpArgs false
set_option linter.unusedVariables false
namespace Go.Proofs.YtckeeefeiljamaaGreatDoor
open Go.RowKit Go.Shelf Go.Proofs.YtckeeefeiljamaaGreatDoorW.PrintWords

def minus : ByteArray := ⟨#[45]⟩
/-- The number that digits spell. -/
def decV (acc : Nat) (l : List UInt8) : Nat := l.foldl (fun a b => a * 10 + (b.toNat - 48)) acc
def numV (l : List UInt8) : Int := (decV 0 l : Nat)
def numP (p : ByteArray) : Bool := numL p.data.toList
def valP (p : ByteArray) : Int := numV p.data.toList
theorem number_any (s : ByteArray) (w : World) : Calls Tryz.prog 79 #[.string s] w fun e w' => e = .returned (.bool (numP s)) ∧ Below w.heap.size w w' :=
  PNum.semver_number.calls s _ w (number_some s)

theorem decFrom_digits : ∀ (l : List UInt8) (acc : Nat), l.all isDig = true → Lib.decFrom acc l = some (decV acc l) := by
  intro l
  induction l with
  | nil => intro acc _; rfl
  | cons b t ih =>
    intro acc h
    simp only [List.all_cons, Bool.and_eq_true] at h
    have hb : 48 ≤ b.toNat ∧ b.toNat ≤ 57 := by simpa [isDig] using h.1
    simp only [Lib.decFrom, Lib.digitVal, if_pos hb, ih _ h.2]
    rfl
theorem numL_parts {l : List UInt8} (h : numL l = true) : l ≠ [] ∧ l.length ≤ 6 ∧ l.all isDig = true ∧ ¬ (l.head? = some 48 ∧ l.length ≠ 1) := by
  simp only [numL, Bool.and_eq_true, Bool.not_eq_true', decide_eq_true_eq, List.isEmpty_eq_false_iff] at h
  obtain ⟨⟨⟨h1, h2⟩, h3⟩, h4⟩ := h
  refine ⟨h1, h2, h4, fun hc => ?_⟩
  rw [decide_eq_true hc.1, decide_eq_true hc.2] at h3
  simp at h3
theorem atoi_num (s : ByteArray) (h : numP s = true) : strconv_Atoi.f s = some (valP s, none) := by
  obtain ⟨h1, h2, h3, _⟩ := numL_parts h
  unfold strconv_Atoi.f
  rw [data_length] at h2
  rw [if_pos (by omega)]
  unfold valP numV
  generalize s.data.toList = l at *
  cases l with
  | nil => exact absurd rfl h1
  | cons b t =>
    have hb : 48 ≤ b.toNat ∧ b.toNat ≤ 57 := by simp only [List.all_cons, Bool.and_eq_true] at h3; simpa [isDig] using h3.1
    have e1 : (b == 45) = false := by rw [beq_eq_false_iff_ne]; rintro rfl; exact absurd hb.1 (by decide)
    have e2 : (b == 43) = false := by rw [beq_eq_false_iff_ne]; rintro rfl; exact absurd hb.1 (by decide)
    simp only [Lib.atoi, e1, e2, Lib.decNat, List.isEmpty_cons, decFrom_digits _ _ h3]
    rfl
theorem atoi_any (s : ByteArray) (h : numP s = true) (w : World) : Calls Tryz.prog 80 #[.string s] w fun e w' => e = .returned (.tuple #[.int .i64 (valP s), .nilIface]) ∧ Below w.heap.size w w' :=
  strconv_Atoi.calls s _ _ w (atoi_num s h)

abbrev zv : Array Value := #[.int .i64 0, .int .i64 0, .int .i64 0, .string ⟨#[]⟩]
def pv (ps : List ByteArray) (k j : Nat) : Int := if j < k then valP (ps.getD j ByteArray.empty) else 0

structure PRel (w : World) (A : Option Addr) (c Pb : Nat) (ps : List ByteArray) (p : ByteArray) (k : Nat) (wr : World) : Prop where
  ok : (ps.take k).all numP = true
  v : wr.heap[w.heap.size + 1]? = some (.cells #[.int .i64 (pv ps k 0), .int .i64 (pv ps k 1), .int .i64 (pv ps k 2), .string p] 38 (0, 0))
  r : wr.heap[w.heap.size]? = some (.cells zv 38 (0, 0))
  ptrs : wr.heap[Pb]? = some (.cells #[.pointer (some ⟨w.heap.size + 1, 0, none⟩), .pointer (some ⟨w.heap.size + 1, 1, none⟩), .pointer (some ⟨w.heap.size + 1, 2, none⟩)] 117 (0, 0))
  row : Kd.R Kd.string 9 wr (w.heap.size + 2) (fun k => w.heap.size + 2 ≤ k) (.slice A 3 c) ps
  bel : Below w.heap.size w wr
theorem PRel.below {w wr wn : World} {A : Option Addr} {c Pb k : Nat} {ps : List ByteArray} {p : ByteArray} (h : PRel w A c Pb ps p k wr) (hb : Below wr.heap.size wr wn) : PRel w A c Pb ps p k wn :=
  have hb' : ∀ {r : Nat} {o : Obj}, wr.heap[r]? = some o → wn.heap[r]? = some o := fun {r o} hr => (hb.block r (Array.getElem?_eq_some_iff.1 hr).1).trans hr
  ⟨h.ok, hb' h.v, hb' h.r, hb' h.ptrs, Kd.R_below h.row hb, h.bel.trans (hb.mono h.bel.size)⟩
theorem PRel.str {w wr : World} {A : Option Addr} {c Pb k : Nat} {ps : List ByteArray} {p : ByteArray} (h : PRel w A c Pb ps p k wr) (j : Nat) (hj : j < 3) :
    ∃ ad, A = some ad ∧ wr.cell? (ad.add j) = some (.string (ps.getD j ByteArray.empty)) := by
  obtain ⟨hn, hc, hC⟩ := Kd.R_reads' h.row
  obtain ⟨ad, e, hx⟩ := Kd.at_string hC j (by omega) (by omega)
  exact ⟨ad, e, by rw [Int.toNat_natCast] at hx; rw [hx]; rfl⟩
theorem PRel.step {w wr : World} {A : Option Addr} {c Pb k : Nat} {ps : List ByteArray} {p : ByteArray} (h : PRel w A c Pb ps p k wr) (hl : ps.length = 3) (hk : k < 3) (hn : numP (ps.getD k ByteArray.empty) = true) (hPb : w.heap.size + 1 < Pb) :
    PRel w A c Pb ps p (k + 1) (wr.setCell ⟨w.heap.size + 1, k, none⟩ (.int .i64 (valP (ps.getD k ByteArray.empty)))) := by
  have hne : ∀ r, r ≠ w.heap.size + 1 → (wr.setCell ⟨w.heap.size + 1, k, none⟩ (.int .i64 (valP (ps.getD k ByteArray.empty)))).heap[r]? = wr.heap[r]? := fun r hr => Below.heap_setCell wr _ _ r hr
  refine ⟨?_, ?_, (hne _ (by omega)).trans h.r, (hne _ (by omega)).trans h.ptrs, Kd.R_far h.row (fun j hj => by show j ≠ w.heap.size + 1; omega) _, h.bel.setCell (p := ⟨w.heap.size + 1, k, none⟩) (by show w.heap.size ≤ w.heap.size + 1; omega) _⟩
  · rw [List.take_succ_eq_append_getElem (by omega), List.all_append, h.ok]
    rw [List.getD_eq_getElem?_getD, List.getElem?_eq_getElem (by omega)] at hn
    simp only [Option.getD_some] at hn
    simp [hn]
  · have hlt := (Array.getElem?_eq_some_iff.1 h.v).1
    have hv := (Array.getElem?_eq_some_iff.1 h.v).2
    simp only [World.setCell]
    rw [Array.getElem?_modify]
    rw [if_pos rfl, h.v]
    obtain rfl | rfl | rfl : k = 0 ∨ k = 1 ∨ k = 2 := by omega
    all_goals simp [pv]

def parseV (s : ByteArray) : Int × Int × Int × ByteArray × Int :=
  let c := Lib.cut s.data.toList [45]
  let ps := pieces dot (toBytes c.1)
  if ps.length ≠ 3 ∨ (c.2.2 = true ∧ preB (toBytes c.2.1) = false) ∨ ps.all numP = false then (0, 0, 0, ⟨#[]⟩, 10)
  else (valP (ps.getD 0 ByteArray.empty), valP (ps.getD 1 ByteArray.empty), valP (ps.getD 2 ByteArray.empty), toBytes c.2.1, 0)

def ParsePost (w : World) (r : Int × Int × Int × ByteArray × Int) (e : Ending) (w' : World) : Prop :=
  e = .returned (.tuple #[.agg #[.int .i64 r.1, .int .i64 r.2.1, .int .i64 r.2.2.1, .string r.2.2.2.1], .int .i64 r.2.2.2.2]) ∧ Below w.heap.size w w'
def badV : Int × Int × Int × ByteArray × Int := (0, 0, 0, ⟨#[]⟩, 10)
def goodV (ps : List ByteArray) (p : ByteArray) : Int × Int × Int × ByteArray × Int :=
  if ps.all numP = true then (valP (ps.getD 0 ByteArray.empty), valP (ps.getD 1 ByteArray.empty), valP (ps.getD 2 ByteArray.empty), p, 0) else badV

theorem bel4 {w w2 : World} (h : Below w.heap.size w w2) {x0 x1 x2 x3 : Value} : Below w.heap.size w ((((w2.setCell ⟨w.heap.size, 0, none⟩ x0).setCell ⟨w.heap.size, 1, none⟩ x1).setCell ⟨w.heap.size, 2, none⟩ x2).setCell ⟨w.heap.size, 3, none⟩ x3) :=
  (((h.setCell (p := ⟨w.heap.size, 0, none⟩) (Nat.le_refl _) _).setCell (p := ⟨w.heap.size, 1, none⟩) (Nat.le_refl _) _).setCell (p := ⟨w.heap.size, 2, none⟩) (Nat.le_refl _) _).setCell (p := ⟨w.heap.size, 3, none⟩) (Nat.le_refl _) _
theorem cell_of_row {w : World} {b : Nat} {t : TypeId} {x0 x1 x2 x3 : Value} (h : w.heap[b]? = some (.cells #[x0, x1, x2, x3] t (0, 0))) :
    w.cell? ⟨b, 0, none⟩ = some x0 ∧ w.cell? ⟨b, 1, none⟩ = some x1 ∧ w.cell? ⟨b, 2, none⟩ = some x2 ∧ w.cell? ⟨b, 3, none⟩ = some x3 := by
  simp [World.cell?, h]
theorem free_of_row {w : World} {b : Nat} {t : TypeId} {x0 x1 x2 x3 : Value} (h : w.heap[b]? = some (.cells #[x0, x1, x2, x3] t (0, 0))) :
    w.frozen? ⟨b, 0, none⟩ = false ∧ w.frozen? ⟨b, 1, none⟩ = false ∧ w.frozen? ⟨b, 2, none⟩ = false ∧ w.frozen? ⟨b, 3, none⟩ = false := by
  simp [World.frozen?, h]

set_option maxHeartbeats 1000000 in
set_option maxRecDepth 100000 in
theorem Parse_walk (s : ByteArray) (w : World) (hG : Gw w) (s0 p : ByteArray) (dashed : Bool) (hc : strings_Cut.f s minus = some (s0, p, dashed)) (ps : List ByteArray) (hp : strings_Split.f s0 dot = some ps)
    (hps : p.size < 4294967281) (R : Int × Int × Int × ByteArray × Int) (hR1 : (ps.length ≠ 3 ∨ (dashed = true ∧ preB p = false)) → R = badV) (hR2 : ¬ (ps.length ≠ 3 ∨ (dashed = true ∧ preB p = false)) → R = goodV ps p) :
    Calls Tryz.prog 56 #[.string s] w (ParsePost w R) := by
  have HR1 := Lib.hid hR1
  have HR2 := Lib.hid hR2
  clear hR1 hR2
  have HG := Lib.hid hG
  have HC := Lib.hid (fun W hg => strings_Cut.calls s minus s0 p dashed W hg hc)
  have HP := Lib.hid (fun W hg => strings_Split.calls s0 dot ps W hg hp)
  have hbig := hG.big
  clear hG hc hp
  go_enter Tryz.func56, Tryz.ntmps56
  go_wp2_with fail
  have hb0 : Below w.heap.size w ((w.alloc (.cells zv 38)).alloc (.cells zv 38)) := ((Below.refl _ w).alloc (Nat.le_refl _) _).alloc (by simp) _
  refine (HC.out _ (HG.out.below hb0)).mono ?_
  rintro e w1 ⟨rfl, ⟨n1, rfl⟩⟩
  go_wp2_with fail
  have hq1 : ((((w.alloc (.cells zv 38)).alloc (.cells zv 38)).drewN n1).setCell ⟨w.heap.size + 1, 3, none⟩ (.string p)).heap[w.heap.size + 1]? = some (.cells #[.int .i64 0, .int .i64 0, .int .i64 0, .string p] 38 (0, 0)) := by
    have h1 : ((w.alloc (.cells zv 38)).alloc (.cells zv 38)).heap[w.heap.size + 1]? = some (.cells zv 38 (0, 0)) := by
      have := World.alloc_heap_new (w.alloc (.cells zv 38)) (.cells zv 38); rwa [World.size_alloc] at this
    simp only [World.setCell, World.drewN]
    rw [Array.getElem?_modify, if_pos rfl, h1]; rfl
  have hq0 : ((((w.alloc (.cells zv 38)).alloc (.cells zv 38)).drewN n1).setCell ⟨w.heap.size + 1, 3, none⟩ (.string p)).heap[w.heap.size]? = some (.cells zv 38 (0, 0)) := by
    rw [Below.heap_setCell _ _ _ _ (by show w.heap.size ≠ w.heap.size + 1; omega)]
    show ((w.alloc (.cells zv 38)).alloc (.cells zv 38)).heap[w.heap.size]? = _
    rw [Below.heap_alloc _ _ _ (by simp)]; exact World.alloc_heap_new _ _
  have hb1 : Below w.heap.size w ((((w.alloc (.cells zv 38)).alloc (.cells zv 38)).drewN n1).setCell ⟨w.heap.size + 1, 3, none⟩ (.string p)) :=
    (below_drewN hb0 n1).setCell (p := ⟨w.heap.size + 1, 3, none⟩) (by show w.heap.size ≤ w.heap.size + 1; omega) _
  have hz1 : ((((w.alloc (.cells zv 38)).alloc (.cells zv 38)).drewN n1).setCell ⟨w.heap.size + 1, 3, none⟩ (.string p)).heap.size = w.heap.size + 2 := by
    simp [World.drewN]
  generalize (((w.alloc (.cells zv 38)).alloc (.cells zv 38)).drewN n1).setCell ⟨w.heap.size + 1, 3, none⟩ (.string p) = W1 at *
  refine (HP.out _ (HG.out.below hb1)).mono ?_
  rintro e w2 ⟨v, rfl, hv, hb2⟩
  have hp1 := (hb2.block _ (by omega)).trans hq1
  have hp0 := (hb2.block _ (by omega)).trans hq0
  have hbel2 : Below w.heap.size w w2 := hb1.trans (hb2.mono hb1.size)
  rw [hz1] at hv
  have hz2 : w.heap.size + 2 ≤ w2.heap.size := by have := hb2.size; omega
  clear hq1 hq0 hb1 hz1 hb0 hb2
  obtain ⟨A, c, rfl, hRl, hRd⟩ := Kd.R_reads hv
  have HV := Lib.hid (Kd.R_mono (Kd.R_bound hv) (fun k hk => hk.2.1) : Kd.R Kd.string 9 w2 (w.heap.size + 2) (fun k => w.heap.size + 2 ≤ k) (.slice A ps.length c) ps)
  have HRD := Lib.hid hRd
  clear hv hRd
  by_cases hl : ps.length = 3
  · have hl' : ((ps.length : Int) != 3) = false := by simp; omega
    have hl2 : ((ps.length : Int) == 3) = true := by simp; omega
    have c1 := cell_of_row hp1
    have HP0 := Lib.hid hp0
    have HP1 := Lib.hid hp1
    clear hp0 hp1
    have HL := Lib.hid hl
    clear hl
    cases dashed with
    | true =>
      go_wp2_with fail
      refine (pre_any p hps _ (HG.out.below hbel2)).mono ?_
      rintro e w3 ⟨rfl, hb3⟩
      have hbel3 := hbel2.trans (hb3.mono hbel2.size)
      have hz3 : w.heap.size + 2 ≤ w3.heap.size := by have := hb3.size; omega
      have HP03 := Lib.hid ((hb3.block _ (by omega)).trans HP0.out)
      have HP13 := Lib.hid ((hb3.block _ (by omega)).trans HP1.out)
      have HV3 := Lib.hid (Kd.R_below (HL.out ▸ HV.out : Kd.R Kd.string 9 w2 (w.heap.size + 2) (fun k => w.heap.size + 2 ≤ k) (.slice A 3 c) ps) hb3)
      clear hb3 hbel2 HV HP0 HP1 c1
      cases hpre : preB p with
      | false =>
        have hR := Lib.hid (HR1.out (.inr ⟨by simp, hpre⟩))
        have c0 := cell_of_row HP03.out
        have f0 := free_of_row HP03.out
        clear hpre
        go_wp2_with fail
        refine bodyPost_ret (v := .tuple #[.agg zv, .int .i64 10]) (by simp [results, Tryz.results56, go_sem, c0.1, c0.2.1, c0.2.2.1, c0.2.2.2]) rfl ?_
        rw [hR.out]
        exact ⟨rfl, bel4 hbel3⟩
      | true =>
        have HPRE := Lib.hid hpre
        clear hpre

        have hRg : Hid (R = goodV ps p) := Lib.hid (HR2.out (by intro h; rcases h with h | ⟨_, h⟩; exact h HL.out; rw [HPRE.out] at h; cases h))
        have hPb : w.heap.size + 1 < w3.heap.size := by omega
        have PR0 : Hid (PRel w A c w3.heap.size ps p 0 (w3.alloc (.cells #[.pointer (some ⟨w.heap.size + 1, 0, none⟩), .pointer (some ⟨w.heap.size + 1, 1, none⟩), .pointer (some ⟨w.heap.size + 1, 2, none⟩)] 117))) := by
          have ha : Below w3.heap.size w3 (w3.alloc (.cells #[.pointer (some ⟨w.heap.size + 1, 0, none⟩), .pointer (some ⟨w.heap.size + 1, 1, none⟩), .pointer (some ⟨w.heap.size + 1, 2, none⟩)] 117)) := (Below.refl _ w3).alloc (Nat.le_refl _) _
          exact Lib.hid ⟨rfl, (ha.block _ (by omega)).trans HP13.out, (ha.block _ (by omega)).trans HP03.out, World.alloc_heap_new _ _, Kd.R_below HV3.out ha, hbel3.trans (ha.mono hbel3.size)⟩
        go_wp2_with fail
        go_loopw [38] (fun i wr => ∃ k : Nat, k ≤ 3 ∧ i = .int .i64 k ∧ Hid (PRel w A c w3.heap.size ps p k wr)) (fun i _ => 3 - (intOf i).toNat)
        case atStart => exact ⟨0, by omega, rfl, PR0⟩
        case round =>
          obtain ⟨k, hk, rfl, HPR⟩ := hrel
          clear PR0 HV3 HP13 HP03
          by_cases hk3 : k < 3
          · obtain ⟨ad, rfl, hst⟩ := HPR.out.str k hk3
            obtain ⟨q, HQ⟩ : ∃ q, Hid (ps.getD k ByteArray.empty = q) := ⟨_, Lib.hid rfl⟩
            rw [HQ.out] at hst
            have hkl : k < ps.length := by rw [HL.out]; exact hk3
            have hpt : wr.cell? ⟨w3.heap.size, k, none⟩ = some (.pointer (some ⟨w.heap.size + 1, k, none⟩)) := by
              simp only [World.cell?, HPR.out.ptrs]
              obtain rfl | rfl | rfl : k = 0 ∨ k = 1 ∨ k = 2 := by omega
              all_goals rfl
            have dk : decide ((k : Int) < 3) = true := by simp; omega
            have HX := Lib.hid (fun W => number_any q W)
            go_wp2_with fail
            refine (HX.out _).mono ?_
            rintro e w5 ⟨rfl, hb5⟩
            have HPR5 := Lib.hid (HPR.out.below hb5)
            clear hb5
            obtain ⟨ad', e', hst5⟩ := HPR5.out.str k hk3
            cases e'
            rw [HQ.out] at hst5
            cases hnum : numP q with
            | false =>
              have hRb : Hid (R = badV) := Lib.hid (by
                rw [hRg.out]; unfold goodV
                rw [if_neg]
                intro h
                rw [List.all_eq_true] at h
                have := h q (by rw [← HQ.out]; rw [List.getD_eq_getElem?_getD, List.getElem?_eq_getElem (by rw [HL.out]; exact hk3)]; exact List.getElem_mem _)
                rw [hnum] at this; cases this)
              have c0 := cell_of_row HPR5.out.r
              have f0 := free_of_row HPR5.out.r
              clear hnum HX
              go_wp2_with fail
              refine bodyPost_ret (v := .tuple #[.agg zv, .int .i64 10]) (by simp [results, Tryz.results56, go_sem, c0.1, c0.2.1, c0.2.2.1, c0.2.2.2]) rfl ?_
              rw [hRb.out]
              exact ⟨rfl, bel4 HPR5.out.bel⟩
            | true =>
              have HN := Lib.hid hnum
              have HA := Lib.hid (fun W => atoi_any q hnum W)
              clear hnum HX
              go_wp2_with fail
              refine (HA.out _).mono ?_
              rintro e w6 ⟨rfl, hb6⟩
              have HPR6 := Lib.hid (HPR5.out.below hb6)
              clear hb6
              have c1' := cell_of_row HPR6.out.v
              have f1' := free_of_row HPR6.out.v
              have cv : ∃ x, w6.cell? ⟨w.heap.size + 1, k, none⟩ = some x := by
                obtain rfl | rfl | rfl : k = 0 ∨ k = 1 ∨ k = 2 := by omega
                · exact ⟨_, c1'.1⟩
                · exact ⟨_, c1'.2.1⟩
                · exact ⟨_, c1'.2.2.1⟩
              have fv : w6.frozen? ⟨w.heap.size + 1, k, none⟩ = false := by
                obtain rfl | rfl | rfl : k = 0 ∨ k = 1 ∨ k = 2 := by omega
                · exact f1'.1
                · exact f1'.2.1
                · exact f1'.2.2.1
              obtain ⟨xv, cv⟩ := cv
              have HS : Hid (PRel w (some ad) c w3.heap.size ps p (k + 1) (w6.setCell ⟨w.heap.size + 1, k, none⟩ (.int .i64 (valP q)))) := Lib.hid (by have := HPR6.out.step HL.out hk3 (by rw [HQ.out]; exact HN.out) hPb; rw [HQ.out] at this; exact this)
              clear c1' f1'
              go_wp2_with fail
              go_roundw
              case rel => exact ⟨k + 1, by omega, by go_num, HS⟩
              case measure => simp [intOf]; omega
          · obtain rfl : k = 3 := by omega
            have dk : decide (((3 : Nat) : Int) < 3) = false := by decide
            have hRv : Hid (R = (pv ps 3 0, pv ps 3 1, pv ps 3 2, p, 0)) := Lib.hid (by
              rw [hRg.out]; unfold goodV
              have hall : ps.all numP = true := by have := HPR.out.ok; rwa [List.take_of_length_le (by rw [HL.out]; exact Nat.le_refl _)] at this
              rw [if_pos hall]; rfl)
            have c0 := cell_of_row HPR.out.r
            have f0 := free_of_row HPR.out.r
            have c1' := cell_of_row HPR.out.v
            go_wp2_with fail
            refine bodyPost_ret (v := .tuple #[.agg #[.int .i64 (pv ps 3 0), .int .i64 (pv ps 3 1), .int .i64 (pv ps 3 2), .string p], .int .i64 0]) (by simp [results, Tryz.results56, go_sem, c0.1, c0.2.1, c0.2.2.1, c0.2.2.2]) rfl ?_
            rw [hRv.out]
            exact ⟨rfl, bel4 HPR.out.bel⟩
    | false =>
      obtain ⟨w3, rfl⟩ : ∃ w3 : World, w3 = w2 := ⟨_, rfl⟩
      have hbel3 := hbel2
      have hz3 := hz2
      have HP03 := HP0
      have HP13 := HP1
      have HV3 := Lib.hid (HL.out ▸ HV.out : Kd.R Kd.string 9 w3 (w.heap.size + 2) (fun k => w.heap.size + 2 ≤ k) (.slice A 3 c) ps)
      clear hbel2 HV HP0 HP1 c1

      have hRg : Hid (R = goodV ps p) := Lib.hid (HR2.out (by intro h; rcases h with h | ⟨h, _⟩; exact h HL.out; cases h))
      have hPb : w.heap.size + 1 < w3.heap.size := by omega
      have PR0 : Hid (PRel w A c w3.heap.size ps p 0 (w3.alloc (.cells #[.pointer (some ⟨w.heap.size + 1, 0, none⟩), .pointer (some ⟨w.heap.size + 1, 1, none⟩), .pointer (some ⟨w.heap.size + 1, 2, none⟩)] 117))) := by
        have ha : Below w3.heap.size w3 (w3.alloc (.cells #[.pointer (some ⟨w.heap.size + 1, 0, none⟩), .pointer (some ⟨w.heap.size + 1, 1, none⟩), .pointer (some ⟨w.heap.size + 1, 2, none⟩)] 117)) := (Below.refl _ w3).alloc (Nat.le_refl _) _
        exact Lib.hid ⟨rfl, (ha.block _ (by omega)).trans HP13.out, (ha.block _ (by omega)).trans HP03.out, World.alloc_heap_new _ _, Kd.R_below HV3.out ha, hbel3.trans (ha.mono hbel3.size)⟩
      go_wp2_with fail
      go_loopw [38] (fun i wr => ∃ k : Nat, k ≤ 3 ∧ i = .int .i64 k ∧ Hid (PRel w A c w3.heap.size ps p k wr)) (fun i _ => 3 - (intOf i).toNat)
      case atStart => exact ⟨0, by omega, rfl, PR0⟩
      case round =>
        obtain ⟨k, hk, rfl, HPR⟩ := hrel
        clear PR0 HV3 HP13 HP03
        by_cases hk3 : k < 3
        · obtain ⟨ad, rfl, hst⟩ := HPR.out.str k hk3
          obtain ⟨q, HQ⟩ : ∃ q, Hid (ps.getD k ByteArray.empty = q) := ⟨_, Lib.hid rfl⟩
          rw [HQ.out] at hst
          have hkl : k < ps.length := by rw [HL.out]; exact hk3
          have hpt : wr.cell? ⟨w3.heap.size, k, none⟩ = some (.pointer (some ⟨w.heap.size + 1, k, none⟩)) := by
            simp only [World.cell?, HPR.out.ptrs]
            obtain rfl | rfl | rfl : k = 0 ∨ k = 1 ∨ k = 2 := by omega
            all_goals rfl
          have dk : decide ((k : Int) < 3) = true := by simp; omega
          have HX := Lib.hid (fun W => number_any q W)
          go_wp2_with fail
          refine (HX.out _).mono ?_
          rintro e w5 ⟨rfl, hb5⟩
          have HPR5 := Lib.hid (HPR.out.below hb5)
          clear hb5
          obtain ⟨ad', e', hst5⟩ := HPR5.out.str k hk3
          cases e'
          rw [HQ.out] at hst5
          cases hnum : numP q with
          | false =>
            have hRb : Hid (R = badV) := Lib.hid (by
              rw [hRg.out]; unfold goodV
              rw [if_neg]
              intro h
              rw [List.all_eq_true] at h
              have := h q (by rw [← HQ.out]; rw [List.getD_eq_getElem?_getD, List.getElem?_eq_getElem (by rw [HL.out]; exact hk3)]; exact List.getElem_mem _)
              rw [hnum] at this; cases this)
            have c0 := cell_of_row HPR5.out.r
            have f0 := free_of_row HPR5.out.r
            clear hnum HX
            go_wp2_with fail
            refine bodyPost_ret (v := .tuple #[.agg zv, .int .i64 10]) (by simp [results, Tryz.results56, go_sem, c0.1, c0.2.1, c0.2.2.1, c0.2.2.2]) rfl ?_
            rw [hRb.out]
            exact ⟨rfl, bel4 HPR5.out.bel⟩
          | true =>
            have HN := Lib.hid hnum
            have HA := Lib.hid (fun W => atoi_any q hnum W)
            clear hnum HX
            go_wp2_with fail
            refine (HA.out _).mono ?_
            rintro e w6 ⟨rfl, hb6⟩
            have HPR6 := Lib.hid (HPR5.out.below hb6)
            clear hb6
            have c1' := cell_of_row HPR6.out.v
            have f1' := free_of_row HPR6.out.v
            have cv : ∃ x, w6.cell? ⟨w.heap.size + 1, k, none⟩ = some x := by
              obtain rfl | rfl | rfl : k = 0 ∨ k = 1 ∨ k = 2 := by omega
              · exact ⟨_, c1'.1⟩
              · exact ⟨_, c1'.2.1⟩
              · exact ⟨_, c1'.2.2.1⟩
            have fv : w6.frozen? ⟨w.heap.size + 1, k, none⟩ = false := by
              obtain rfl | rfl | rfl : k = 0 ∨ k = 1 ∨ k = 2 := by omega
              · exact f1'.1
              · exact f1'.2.1
              · exact f1'.2.2.1
            obtain ⟨xv, cv⟩ := cv
            have HS : Hid (PRel w (some ad) c w3.heap.size ps p (k + 1) (w6.setCell ⟨w.heap.size + 1, k, none⟩ (.int .i64 (valP q)))) := Lib.hid (by have := HPR6.out.step HL.out hk3 (by rw [HQ.out]; exact HN.out) hPb; rw [HQ.out] at this; exact this)
            clear c1' f1'
            go_wp2_with fail
            go_roundw
            case rel => exact ⟨k + 1, by omega, by go_num, HS⟩
            case measure => simp [intOf]; omega
        · obtain rfl : k = 3 := by omega
          have dk : decide (((3 : Nat) : Int) < 3) = false := by decide
          have hRv : Hid (R = (pv ps 3 0, pv ps 3 1, pv ps 3 2, p, 0)) := Lib.hid (by
            rw [hRg.out]; unfold goodV
            have hall : ps.all numP = true := by have := HPR.out.ok; rwa [List.take_of_length_le (by rw [HL.out]; exact Nat.le_refl _)] at this
            rw [if_pos hall]; rfl)
          have c0 := cell_of_row HPR.out.r
          have f0 := free_of_row HPR.out.r
          have c1' := cell_of_row HPR.out.v
          go_wp2_with fail
          refine bodyPost_ret (v := .tuple #[.agg #[.int .i64 (pv ps 3 0), .int .i64 (pv ps 3 1), .int .i64 (pv ps 3 2), .string p], .int .i64 0]) (by simp [results, Tryz.results56, go_sem, c0.1, c0.2.1, c0.2.2.1, c0.2.2.2]) rfl ?_
          rw [hRv.out]
          exact ⟨rfl, bel4 HPR.out.bel⟩
  · have hR := Lib.hid (HR1.out (.inl hl))
    have hl' : ((ps.length : Int) != 3) = true := by simp; omega
    have hl2 : ((ps.length : Int) == 3) = false := by simp; omega
    have c0 := cell_of_row hp0
    have f0 := free_of_row hp0
    clear hp0 hp1 hl
    go_wp2_with fail
    refine bodyPost_ret (v := .tuple #[.agg zv, .int .i64 10]) (by simp [results, Tryz.results56, go_sem, c0.1, c0.2.1, c0.2.2.1, c0.2.2.2]) rfl ?_
    rw [hR.out]
    exact ⟨rfl, bel4 hbel2⟩

theorem toBytes_size (l : List UInt8) : (toBytes l).size = l.length := by simp [toBytes, ByteArray.size]
theorem cut_le (l sep : List UInt8) : (Lib.cut l sep).1.length ≤ l.length ∧ (Lib.cut l sep).2.1.length ≤ l.length := by
  unfold Lib.cut
  split <;> simp <;> omega
theorem Parse_any (s : ByteArray) (hs : s.size < 4294967281) (w : World) (hG : Gw w) :
    Calls Tryz.prog 56 #[.string s] w (ParsePost w (parseV s)) := by
  have hl := data_length s
  have hc := cut_le s.data.toList [45]
  have h1 : strings_Cut.f s minus = some (toBytes (Lib.cut s.data.toList [45]).1, toBytes (Lib.cut s.data.toList [45]).2.1, (Lib.cut s.data.toList [45]).2.2) := by
    unfold strings_Cut.f; rw [if_pos hs]; rfl
  have h2 : strings_Split.f (toBytes (Lib.cut s.data.toList [45]).1) dot = some (pieces dot (toBytes (Lib.cut s.data.toList [45]).1)) := by
    unfold strings_Split.f; rw [if_pos ⟨by rw [toBytes_size]; omega, by decide⟩]; rfl
  refine Parse_walk s w hG _ _ _ h1 _ h2 (by rw [toBytes_size]; omega) _ ?_ ?_
  · intro h
    unfold parseV
    rw [if_pos (h.elim .inl (fun h => .inr (.inl h)))]; rfl
  · intro h
    unfold parseV goodV
    by_cases ha : (pieces dot (toBytes (Lib.cut s.data.toList [45]).1)).all numP = true
    · rw [if_neg (by rintro (h1 | h1 | h1); exact h (.inl h1); exact h (.inr h1); rw [ha] at h1; cases h1), if_pos ha]
    · rw [if_neg ha, if_pos (.inr (.inr (by simpa using ha)))]; rfl

/-! The program's functions as the printed texts call them. -/
def semver_number.f (s : ByteArray) : Option Bool := some (numP s)
theorem semver_number.calls (a0 : ByteArray) (r : Bool) (w : World) (h : semver_number.f a0 = some r) :
    Calls Tryz.prog 79 #[.string a0] w fun e w' => e = .returned (.bool r) ∧ Below w.heap.size w w' := by
  obtain rfl := Option.some.inj h; exact number_any a0 w
def semver_pre.f (s : ByteArray) : Option Bool := if s.size < 4294967281 then some (preB s) else none
theorem semver_pre.calls (a0 : ByteArray) (r : Bool) (w : World) (hG : Gw w) (h : semver_pre.f a0 = some r) :
    Calls Tryz.prog 40 #[.string a0] w fun e w' => e = .returned (.bool r) ∧ Below w.heap.size w w' := by
  unfold semver_pre.f at h
  split at h
  · rename_i hs; obtain rfl := Option.some.inj h; exact pre_any a0 hs w hG
  · cases h
def semver_Parse.f (s : ByteArray) : Option (Int × Int × Int × ByteArray × Int) := if s.size < 4294967281 then some (parseV s) else none
theorem semver_Parse.calls (a0 : ByteArray) (r1 r2 r3 : Int) (r4 : ByteArray) (r5 : Int) (w : World) (hG : Gw w) (h : semver_Parse.f a0 = some (r1, r2, r3, r4, r5)) :
    Calls Tryz.prog 56 #[.string a0] w fun e w' => e = .returned (.tuple #[.agg #[.int .i64 r1, .int .i64 r2, .int .i64 r3, .string r4], .int .i64 r5]) ∧ Below w.heap.size w w' := by
  unfold semver_Parse.f at h
  split at h
  · rename_i hs
    have h := Option.some.inj h
    refine (Parse_any a0 hs w hG).mono fun e w' hp => ?_
    unfold ParsePost at hp
    rw [h] at hp
    exact hp
  · cases h
end Go.Proofs.YtckeeefeiljamaaGreatDoor
set_option linter.unusedSimpArgs false
set_option linter.unusedVariables false
namespace Go.Proofs.YtckeeefeiljamaaGreatDoor
open Go.RowKit Go.Proofs.YtckeeefeiljamaaGreatDoorW.PrintWords

def cmpS (a b : ByteArray) : Int := if Op.bytesLess a.toList b.toList = true then -1 else if (a.toList == b.toList) = true then 0 else 1
set_option maxRecDepth 100000 in
theorem isNaN_any (a : ByteArray) (w : World) : Calls Tryz.prog 124 #[.string a] w fun e w' => e = .returned (.bool false) ∧ w = w' := by
  have e0 : (a.toList != a.toList) = false := by simp
  go_enter Tryz.func124, Tryz.ntmps124
  go_wp2_with fail
  go_ret
  exact ⟨by simp, rfl⟩
set_option maxRecDepth 100000 in
theorem cmpS_any (a b : ByteArray) (w : World) : Calls Tryz.prog 101 #[.string a, .string b] w fun e w' => e = .returned (.int .i64 (cmpS a b)) ∧ w = w' := by
  have n1 := Lib.hid (fun W => isNaN_any a W)
  have n2 := Lib.hid (fun W => isNaN_any b W)
  cases h1 : Op.bytesLess a.toList b.toList with
  | true =>
    have HR : Hid (cmpS a b = -1) := Lib.hid (by simp [cmpS, h1])
    go_enter Tryz.func101, Tryz.ntmps101
    go_wp2_with fail
    refine (n1.out _).mono ?_
    rintro e w' ⟨rfl, rfl⟩
    go_wp2_with fail
    refine (n2.out _).mono ?_
    rintro e w' ⟨rfl, rfl⟩
    go_wp2_with fail
    go_ret
    exact ⟨by rw [HR.out]; rfl, rfl⟩
  | false =>
    cases h2 : (a.toList == b.toList) with
    | true =>
      have HR : Hid (cmpS a b = 0) := Lib.hid (by simp [cmpS, h1, h2])
      go_enter Tryz.func101, Tryz.ntmps101
      go_wp2_with fail
      refine (n1.out _).mono ?_
      rintro e w' ⟨rfl, rfl⟩
      go_wp2_with fail
      refine (n2.out _).mono ?_
      rintro e w' ⟨rfl, rfl⟩
      go_wp2_with fail
      go_ret
      exact ⟨by rw [HR.out]; rfl, rfl⟩
    | false =>
      have HR : Hid (cmpS a b = 1) := Lib.hid (by simp [cmpS, h1, h2])
      go_enter Tryz.func101, Tryz.ntmps101
      go_wp2_with fail
      refine (n1.out _).mono ?_
      rintro e w' ⟨rfl, rfl⟩
      go_wp2_with fail
      refine (n2.out _).mono ?_
      rintro e w' ⟨rfl, rfl⟩
      go_wp2_with fail
      go_ret
      exact ⟨by rw [HR.out]; rfl, rfl⟩
def cmp_Compare_string.f (a b : ByteArray) : Option Int := some (cmpS a b)
theorem cmp_Compare_string.calls (a0 a1 : ByteArray) (r : Int) (w : World) (h : cmp_Compare_string.f a0 a1 = some r) :
    Calls Tryz.prog 101 #[.string a0, .string a1] w fun e w' => e = .returned (.int .i64 r) ∧ Drawn0 w w' := by
  obtain rfl := Option.some.inj h
  exact (cmpS_any a0 a1 w).mono fun e w' ⟨he, hw⟩ => ⟨he, hw ▸ Drawn0.refl _⟩
end Go.Proofs.YtckeeefeiljamaaGreatDoor
set_option linter.unusedSimpArgs false
set_option linter.unusedVariables false
namespace Go.Proofs.YtckeeefeiljamaaGreatDoor
open Go.RowKit Go.Proofs.YtckeeefeiljamaaGreatDoorW.PrintWords

def cmpI (a b : Int) : Int := if a < b then -1 else if a > b then 1 else 0
theorem cmpI_any (a b : Int) (w : World) : Calls Tryz.prog 83 #[.int .i64 a, .int .i64 b] w fun e w' => e = .returned (.int .i64 (cmpI a b)) ∧ w = w' :=
  (Tryz.cmp_Compare_int a b w).mono fun e w' h => ⟨h.1, h.2.symm⟩

/-- Of two marks that aren't the same. -/
def cmpM (p q : ByteArray) : Int :=
  if numP p = true then (if numP q = true then cmpI (valP p) (valP q) else -1) else if numP q = true then 1 else cmpS p q
def cmpL (m n : Nat) : List ByteArray → List ByteArray → Int
  | p :: x, q :: y => if p.toList = q.toList then cmpL m n x y else cmpM p q
  | _, _ => cmpI m n
def marksV (a b : ByteArray) : Int :=
  if a.toList = [] ∨ b.toList = [] then cmpI b.size a.size else cmpL (pieces dot a).length (pieces dot b).length (pieces dot a) (pieces dot b)

structure MRel (w : World) (A C : Option Addr) (c d : Nat) (x y : List ByteArray) (wr : World) : Prop where
  r1 : Kd.R Kd.string 9 wr w.heap.size (fun _ => True) (.slice A x.length c) x
  r2 : Kd.R Kd.string 9 wr w.heap.size (fun _ => True) (.slice C y.length d) y
  bel : Below w.heap.size w wr
theorem MRel.below {w wr wn : World} {A C : Option Addr} {c d : Nat} {x y : List ByteArray} (h : MRel w A C c d x y wr) (hb : Below wr.heap.size wr wn) : MRel w A C c d x y wn :=
  ⟨Kd.R_below h.r1 hb, Kd.R_below h.r2 hb, h.bel.trans (hb.mono h.bel.size)⟩
theorem MRel.at1 {w wr : World} {A C : Option Addr} {c d : Nat} {x y : List ByteArray} (h : MRel w A C c d x y wr) (j : Nat) (hj : j < x.length) : ∃ ad, A = some ad ∧ wr.cell? (ad.add j) = some (.string (x.getD j ByteArray.empty)) := by
  obtain ⟨_, _, hC⟩ := Kd.R_reads' h.r1
  obtain ⟨ad, e, hx⟩ := Kd.at_string hC j (by omega) (by omega)
  exact ⟨ad, e, by rw [Int.toNat_natCast] at hx; rw [hx]; rfl⟩
theorem MRel.at2 {w wr : World} {A C : Option Addr} {c d : Nat} {x y : List ByteArray} (h : MRel w A C c d x y wr) (j : Nat) (hj : j < y.length) : ∃ ad, C = some ad ∧ wr.cell? (ad.add j) = some (.string (y.getD j ByteArray.empty)) := by
  obtain ⟨_, _, hC⟩ := Kd.R_reads' h.r2
  obtain ⟨ad, e, hx⟩ := Kd.at_string hC j (by omega) (by omega)
  exact ⟨ad, e, by rw [Int.toNat_natCast] at hx; rw [hx]; rfl⟩
section
variable {a1 a2 : Addr} {p q : Value} {wr w1 w2 : World} {n : Nat}
theorem s3_step (h : w1.cell? a1 = some p ∧ w1.cell? a2 = some q ∧ Below wr.heap.size wr w1) (k : Below w1.heap.size w1 w2) : w2.cell? a1 = some p ∧ w2.cell? a2 = some q ∧ Below wr.heap.size wr w2 :=
  ⟨pw_cell_below k h.1, pw_cell_below k h.2.1, h.2.2.trans (k.mono h.2.2.size)⟩
theorem s3_start (h1 : wr.cell? a1 = some p) (h2 : wr.cell? a2 = some q) : (wr.drewN n).drew.cell? a1 = some p ∧ (wr.drewN n).drew.cell? a2 = some q ∧ Below wr.heap.size wr (wr.drewN n).drew :=
  ⟨h1, h2, below_drew (pw_below_drewN (Below.refl _ _) n)⟩
theorem s3_first (h1 : wr.cell? a1 = some p) (h2 : wr.cell? a2 = some q) (k : Below (wr.drewN n).heap.size (wr.drewN n) w2) : w2.cell? a1 = some p ∧ w2.cell? a2 = some q ∧ Below wr.heap.size wr w2 :=
  s3_step (w1 := wr.drewN n) ⟨h1, h2, pw_below_drewN (Below.refl _ _) n⟩ k
end
def MPost (w : World) (R : Int) (e : Ending) (w' : World) : Prop := e = .returned (.int .i64 R) ∧ Below w.heap.size w w'

set_option maxHeartbeats 2000000 in
set_option maxRecDepth 100000 in
theorem marks_walk (a b : ByteArray) (w : World) (hG : Gw w) (x y : List ByteArray) (hx : strings_Split.f a dot = some x) (hy : strings_Split.f b dot = some y) (ha : a.toList ≠ []) (hb : b.toList ≠ []) (hxl : x.length ≤ 4294967296) (hyl : y.length ≤ 4294967296)
    (R : Int) (hR : R = cmpL x.length y.length x y) :
    Calls Tryz.prog 85 #[.string a, .string b] w (MPost w R) := by
  have HG := Lib.hid hG
  have HX := Lib.hid (fun W hg => strings_Split.calls a dot x W hg hx)
  have HY := Lib.hid (fun W hg => strings_Split.calls b dot y W hg hy)
  have HR := Lib.hid hR
  have e1 : (a.toList == ([] : List UInt8)) = false := by simpa using ha
  have e2 : (b.toList == ([] : List UInt8)) = false := by simpa using hb
  have e3 : a.toList.isEmpty = false := by simpa using ha
  have e4 : b.toList.isEmpty = false := by simpa using hb
  clear hG hx hy ha hb hR
  go_enter Tryz.func85, Tryz.ntmps85
  go_wp2_with fail
  refine (HX.out _ HG.out).mono ?_
  rintro e w1 ⟨v1, rfl, hv1, hb1⟩
  obtain ⟨A, c, rfl, _, _⟩ := Kd.R_reads hv1
  go_wp2_with fail
  refine (HY.out _ (HG.out.below hb1)).mono ?_
  rintro e w2 ⟨v2, rfl, hv2, hb2⟩
  obtain ⟨C, d, rfl, _, _⟩ := Kd.R_reads hv2
  have HM : Hid (MRel w A C c d x y w2) := Lib.hid ⟨Kd.R_below hv1 hb2, Kd.R_lower hv2 hb1.size, hb1.trans (hb2.mono hb1.size)⟩
  clear hv1 hv2 hb1 hb2
  go_wp2_with fail
  go_loopw [7] (fun i wr => ∃ k : Nat, k ≤ x.length ∧ k ≤ y.length ∧ i = .int .i64 k ∧ Hid (MRel w A C c d x y wr ∧ R = cmpL x.length y.length (x.drop k) (y.drop k))) (fun i _ => x.length - (intOf i).toNat)
  case atStart => exact ⟨0, by omega, by omega, rfl, Lib.hid ⟨HM.out, HR.out⟩⟩
  case round =>
    obtain ⟨k, hk, hk2, rfl, HREL⟩ := hrel
    clear HM HR
    by_cases hlt2 : k < x.length ∧ k < y.length
    · obtain ⟨hlt, hky⟩ := hlt2
      obtain ⟨ad, rfl, hs1⟩ := HREL.out.1.at1 k hlt
      obtain ⟨ad2, rfl, hs2⟩ := HREL.out.1.at2 k hky
      obtain ⟨p, HP⟩ : ∃ p, Hid (x.getD k ByteArray.empty = p) := ⟨_, Lib.hid rfl⟩
      obtain ⟨q, HQ⟩ : ∃ p, Hid (y.getD k ByteArray.empty = p) := ⟨_, Lib.hid rfl⟩
      rw [HP.out] at hs1
      rw [HQ.out] at hs2
      have dk : decide ((k : Int) < min (x.length : Int) (y.length : Int)) = true := by simp; omega
      have hstep : Hid (cmpL x.length y.length (x.drop k) (y.drop k) = if p.toList = q.toList then cmpL x.length y.length (x.drop (k + 1)) (y.drop (k + 1)) else cmpM p q) := Lib.hid (by
        rw [List.drop_eq_getElem_cons hlt, List.drop_eq_getElem_cons hky]
        have h1 := HP.out; have h2 := HQ.out
        rw [List.getD_eq_getElem?_getD, List.getElem?_eq_getElem (by assumption)] at h1 h2
        simp only [Option.getD_some] at h1 h2
        rw [h1, h2]; rfl)
      by_cases hpq : p.toList = q.toList
      · have d1 : (p.toList == q.toList) = true := by simpa using hpq
        have HR1 : Hid (R = cmpL x.length y.length (x.drop (k + 1)) (y.drop (k + 1))) := Lib.hid (by rw [HREL.out.2, hstep.out, if_pos hpq])
        clear hpq hstep
        go_wp2_with fail
        go_quiet (fail)
        go_wp2_with fail
        go_roundw
        case rel => exact ⟨k + 1, by omega, by omega, by go_num, Lib.hid ⟨HREL.out.1.below (pw_below_drewN (Below.refl _ _) _), HR1.out⟩⟩
        case measure => simp [intOf]; omega
      · have d1 : (p.toList == q.toList) = false := by simpa using hpq
        have HR1 : Hid (R = cmpM p q) := Lib.hid (by rw [HREL.out.2, hstep.out, if_neg hpq])
        clear hpq hstep
        go_wp2_with fail
        go_quiet (fail)
        go_wp2_with fail
        go_region_held3 (fun w' => w'.cell? (ad.add k) = some (.string p) ∧ w'.cell? (ad2.add k) = some (.string q) ∧ Below wr.heap.size wr w') (first | exact s3_step (by assumption) (by assumption) | exact s3_first (by assumption) (by assumption) (by assumption) | exact s3_start (by assumption) (by assumption))
          ((go_at_call 79; refine (number_any _ _).mono ?_; rintro e w' ⟨rfl, hb⟩))
        rename_i hS
        obtain ⟨s1, s2, s3⟩ := hS
        have HREL2 := Lib.hid (HREL.out.1.below s3)
        have HR2 := HR1
        clear hs1 hs2 HREL s3 HR1
        cases hp : numP p with
        | true =>
          cases hq : numP q with
          | true =>
            have HR3 : Hid (R = cmpI (valP p) (valP q)) := Lib.hid (by rw [HR2.out]; unfold cmpM; rw [if_pos hp, if_pos hq])
            have HA1 := Lib.hid (fun W => atoi_any p hp W)
            have HA2 := Lib.hid (fun W => atoi_any q hq W)
            clear hp hq HR2
            go_wp2_with fail
            refine (HA1.out _).mono ?_
            rintro e w7 ⟨rfl, hb7⟩
            have s27 := pw_cell_below hb7 s2
            have HREL7 := Lib.hid (HREL2.out.below hb7)
            clear s1 s2 HREL2 hb7
            go_wp2_with fail
            refine (HA2.out _).mono ?_
            rintro e w8 ⟨rfl, hb8⟩
            have HREL8 := Lib.hid (HREL7.out.below hb8)
            clear s27 HREL7 hb8
            go_wp2_with fail
            refine (cmpI_any _ _ _).mono ?_
            rintro e w9 ⟨rfl, rfl⟩
            go_wp2_with fail
            go_ret
            exact ⟨by rw [HR3.out]; rfl, HREL8.out.bel⟩
          | false =>
            have HR3 : Hid (R = -1) := Lib.hid (by rw [HR2.out]; unfold cmpM; rw [if_pos hp, hq]; rfl)
            clear hp hq HR2
            go_wp2_with fail
            go_ret
            exact ⟨by rw [HR3.out]; rfl, HREL2.out.bel⟩
        | false =>
          cases hq : numP q with
          | true =>
            have HR3 : Hid (R = 1) := Lib.hid (by rw [HR2.out]; unfold cmpM; rw [hp, hq]; rfl)
            clear hp hq HR2
            go_wp2_with fail
            go_ret
            exact ⟨by rw [HR3.out]; rfl, HREL2.out.bel⟩
          | false =>
            have HR3 : Hid (R = cmpS p q) := Lib.hid (by rw [HR2.out]; unfold cmpM; rw [hp, hq]; rfl)
            clear hp hq HR2
            go_wp2_with fail
            go_quiet ((go_at_call 101; exact Calls.quiet_of_same ((cmpS_any p q _).mono fun e w' h => ⟨h.1, h.2.symm⟩)))
            go_wp2_with fail
            go_ret
            exact ⟨by rw [HR3.out]; rfl, pw_below_drewN HREL2.out.bel _⟩
    · have dk : decide ((k : Int) < min (x.length : Int) (y.length : Int)) = false := by simp; omega
      have HR3 : Hid (R = cmpI x.length y.length) := Lib.hid (by
        rw [HREL.out.2]
        by_cases h : k = x.length
        · rw [h, List.drop_of_length_le (Nat.le_refl _)]; rfl
        · have h2 : k = y.length := by omega
          rw [h2, List.drop_of_length_le (Nat.le_refl y.length)]
          cases x.drop y.length <;> rfl)
      go_wp2_with fail
      refine (cmpI_any _ _ _).mono ?_
      rintro e w9 ⟨rfl, rfl⟩
      go_wp2_with fail
      go_ret
      exact ⟨by rw [HR3.out]; rfl, HREL.out.1.bel⟩

set_option maxRecDepth 100000 in
theorem marks_empty (a b : ByteArray) (w : World) (h : a.toList = [] ∨ b.toList = []) :
    Calls Tryz.prog 85 #[.string a, .string b] w fun e w' => e = .returned (.int .i64 (cmpI b.size a.size)) ∧ Below w.heap.size w w' := by
  by_cases ha : a.toList = []
  · have e1 : (a.toList == ([] : List UInt8)) = true := by simpa using ha
    have e3 : a.toList.isEmpty = true := by simpa using ha
    clear h ha
    go_enter Tryz.func85, Tryz.ntmps85
    go_wp2_with fail
    refine (cmpI_any _ _ _).mono ?_
    rintro e w9 ⟨rfl, rfl⟩
    go_wp2_with fail
    go_ret
    exact ⟨rfl, Below.refl _ _⟩
  · have hb := h.resolve_left ha
    have e1 : (a.toList == ([] : List UInt8)) = false := by simpa using ha
    have e3 : a.toList.isEmpty = false := by simpa using ha
    have e2 : (b.toList == ([] : List UInt8)) = true := by simpa using hb
    have e4 : b.toList.isEmpty = true := by simpa using hb
    clear h ha hb
    go_enter Tryz.func85, Tryz.ntmps85
    go_wp2_with fail
    refine (cmpI_any _ _ _).mono ?_
    rintro e w9 ⟨rfl, rfl⟩
    go_wp2_with fail
    go_ret
    exact ⟨rfl, Below.refl _ _⟩
theorem split_some (s : ByteArray) (h : s.size < 4294967281) : strings_Split.f s dot = some (pieces dot s) := by
  unfold strings_Split.f; rw [if_pos ⟨h, by decide⟩]; rfl
theorem pieces_len (s : ByteArray) : (pieces dot s).length ≤ s.size + 1 := by
  unfold pieces
  rw [Lib.splitB_all dot (by decide) 0 _ s rfl]
  have := Lib.countB_le dot (by decide) s.size s (Nat.le_refl _)
  omega
theorem marks_any (a b : ByteArray) (ha : a.size < 4294967281) (hb : b.size < 4294967281) (w : World) (hG : Gw w) : Calls Tryz.prog 85 #[.string a, .string b] w (MPost w (marksV a b)) := by
  unfold marksV
  by_cases h : a.toList = [] ∨ b.toList = []
  · rw [if_pos h]; exact marks_empty a b w h
  · rw [if_neg h]
    have h1 := pieces_len a; have h2 := pieces_len b
    exact marks_walk a b w hG _ _ (split_some a ha) (split_some b hb) (fun e => h (.inl e)) (fun e => h (.inr e)) (by omega) (by omega) _ rfl
def semver_marks.f (a b : ByteArray) : Option Int := if a.size < 4294967281 ∧ b.size < 4294967281 then some (marksV a b) else none
theorem semver_marks.calls (a0 a1 : ByteArray) (r : Int) (w : World) (hG : Gw w) (h : semver_marks.f a0 a1 = some r) :
    Calls Tryz.prog 85 #[.string a0, .string a1] w fun e w' => e = .returned (.int .i64 r) ∧ Below w.heap.size w w' := by
  unfold semver_marks.f at h
  split at h
  · rename_i hs; obtain rfl := Option.some.inj h; exact marks_any a0 a1 hs.1 hs.2 w hG
  · cases h
end Go.Proofs.YtckeeefeiljamaaGreatDoor
set_option linter.unusedSimpArgs false
set_option linter.unusedVariables false
namespace Go.Proofs.YtckeeefeiljamaaGreatDoor
open Go.RowKit Go.Lib Go.Shelf Go.Proofs.YtckeeefeiljamaaGreatDoorW.PrintWords Go.Proofs.YtckeeefeiljamaaGreatDoorW.PrintLast

def strings_HasPrefix.f (s p : ByteArray) : Option Bool := some (Lib.hasPrefix s.data.toList p.data.toList)
theorem strings_HasPrefix.calls (a0 a1 : ByteArray) (r : Bool) (w : World) (h : strings_HasPrefix.f a0 a1 = some r) :
    Calls Tryz.prog 55 #[.string a0, .string a1] w fun e w' => e = .returned (.bool r) ∧ Drawn0 w w' := by
  obtain rfl := Option.some.inj h
  exact (Tryz.strings_HasPrefix a0 a1 w).mono fun e w' ⟨he, hw⟩ => ⟨he, hw ▸ Drawn0.refl _⟩
end Go.Proofs.YtckeeefeiljamaaGreatDoor
