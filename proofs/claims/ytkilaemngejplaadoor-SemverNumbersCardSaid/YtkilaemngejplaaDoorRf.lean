/- A law for a range over strings.SplitSeq: the iterator's pieces are a list that is known, the iterator writes one box of its own, the body keeps whatever lies from a place on. -/
import Derived.RangeFuncNested
import Derived.RangeFuncBound
import Derived.RangeFuncCalls
import Derived.RangeFuncLeaves
import Derived.RangeFuncFrom
import Derived.Below
import Derived.Deep.Draws
namespace Go.Proofs.Cuts
open Go Go.RowKit

/-- From block B on, and ahead of block L, whatever lay lies as it lay. -/
structure Keeps (L B : Nat) (W W' : World) : Prop where
  size : W.heap.size ≤ W'.heap.size
  block : ∀ r, (r < L ∨ B ≤ r) → r < W.heap.size → W'.heap[r]? = W.heap[r]?
theorem Keeps.refl (L B : Nat) (W : World) : Keeps L B W W := ⟨Nat.le_refl _, fun _ _ _ => rfl⟩
theorem Keeps.trans {L B : Nat} {A W C : World} (h : Keeps L B A W) (k : Keeps L B W C) : Keeps L B A C :=
  ⟨Nat.le_trans h.size k.size, fun r hb hr => (k.block r hb (Nat.lt_of_lt_of_le hr h.size)).trans (h.block r hb hr)⟩
theorem Keeps.mono {L B B' : Nat} {A W : World} (h : Keeps L B A W) (hb : B ≤ B') : Keeps L B' A W := ⟨h.size, fun r h1 h2 => h.block r (h1.imp id (Nat.le_trans hb)) h2⟩
theorem Keeps.below {L B : Nat} {A W : World} (h : Below A.heap.size A W) : Keeps L B A W := ⟨h.size, fun r _ hr => h.block r hr⟩
theorem Keeps.alloc (L B : Nat) (W : World) (o : Obj) : Keeps L B W (W.alloc o) := Keeps.below ((Below.refl _ W).alloc (Nat.le_refl _) o)
theorem Keeps.setCell {L B : Nat} (W : World) (p : Addr) (v : Value) (hl : L ≤ p.block) (h : p.block < B) : Keeps L B W (W.setCell p v) :=
  ⟨by simp, fun r hb _ => Below.heap_setCell W p v r (by omega)⟩
theorem Keeps.drewN (L B : Nat) (W : World) (n : Nat) : Keeps L B W (W.drewN n) := ⟨Nat.le_refl _, fun _ _ _ => rfl⟩
theorem Keeps.cell {L B : Nat} {W W' : World} (h : Keeps L B W W') {p : Addr} {v : Value} (hb : p.block < L ∨ B ≤ p.block) (hc : W.cell? p = some v) : W'.cell? p = some v := by
  have hlt := World.block_lt_of_cell? W p hc
  unfold World.cell? at hc ⊢
  rw [h.block _ hb hlt]; exact hc

/-- What an invariant abides: new blocks, the box's turn, a turn of what is no cells from E on. -/
def Harm (b E : Nat) (W W' : World) : Prop := ∃ row, W.grownBy W' row ∧ ∀ r, row = some r → r = b ∨ (E ≤ r ∧ ∃ o, W.heap[r]? = some o ∧ o.isCells = false)
def Hold (b E : Nat) (I : Nat → World → Prop) : Prop := ∀ k W W', I k W → Harm b E W W' → I k W'
def HoldB (b : Nat) (I : Nat → World → Prop) : Prop := ∀ k W W', I k W → W.grownBy W' (some b) → I k W'
theorem Hold.and {b E : Nat} {I I' : Nat → World → Prop} (h : Hold b E I) (h' : Hold b E I') : Hold b E (fun k W => I k W ∧ I' k W) :=
  fun k W W' hs hg => ⟨h k W W' hs.1 hg, h' k W W' hs.2 hg⟩
theorem Hold.pure (b E : Nat) (p : Nat → Prop) : Hold b E (fun k _ => p k) := fun _ _ _ h _ => h
theorem grownBy_put (W : World) (l : Nat) (o : Obj) : W.grownBy (W.putObj l o) (some l) := grownBy_putObj' W l o
theorem Hold.put {b E : Nat} {I : Nat → World → Prop} (h : Hold b E I) {k : Nat} {W : World} {l : Nat} {o : Obj} (o' : Obj) (hi : I k W) (he : E ≤ l) (hl : W.heap[l]? = some o) (hc : o.isCells = false) : I k (W.putObj l o') :=
  h k W _ hi ⟨some l, grownBy_put W l o', fun r e => .inr (by cases e; exact ⟨he, o, hl, hc⟩)⟩
theorem Hold.new {b E : Nat} {I : Nat → World → Prop} (h : Hold b E I) {k : Nat} {W : World} (o : Obj) (hi : I k W) : I k (W.alloc o) :=
  h k W _ hi ⟨none, ((Below.refl _ W).alloc (Nat.le_refl _) o) |> fun hb => ⟨hb.os, hb.tape, hb.output, hb.size, fun i hi _ => hb.block i hi⟩, fun r e => by cases e⟩

def cutPost (L B : Nat) (I : Nat → World → Prop) (Ix : Code → Nat → World → Prop) (k : Nat) (W : World) : Exit → Act → World → Prop
  | .normal, _, W' => Keeps L B W W' ∧ I (k + 1) W'
  | .ret, _, W' => Keeps L B W W' ∧ Ix .ret (k + 1) W'
  | .exit id, _, W' => Keeps L B W W' ∧ Ix (.exit id) (k + 1) W'
  | .goto t, _, W' => Keeps L B W W' ∧ Ix (.goto t) (k + 1) W'
  | .panic _, _, _ => False
  | .outgrown, _, _ => False

/-- The iterator's contract: for whatever rounds. -/
def Iter (F : Fence) (n : Nat) (P : Program) (gf : Nat) (lb : Array Value) (L B : Nat) (xs : List Value) (w : World) : Prop :=
  ∀ (l : Nat) (J Jx : Nat → World → Prop) (W : World), Keeps L B w W → HoldB B J → HoldB B Jx →
    (∀ k W1 v, J k W1 → xs[k]? = some v → YieldAt F (n - 1) P l #[v] W1 fun e W' => (e = .returned (.bool true) ∧ J (k + 1) W' ∧ Keeps L B W1 W') ∨ (e = .returned (.bool false) ∧ Jx (k + 1) W')) →
    J 0 W →
    CallsIn F n P gf (#[.func (.yield l) #[] #[]] ++ lb) W fun e W' => (∃ v, e = .returned v) ∧ (J xs.length W' ∨ ∃ k, Jx k W')

variable {F : Fence} {n : Nat} {P : Program}
theorem range_cuts {g : Operand} {ps : Array Tmp} {assign body : Code} {Q : Exit → Act → World → Prop} {a : Act} {w : World}
    (hro : F.round = none) (h1 : 1 ≤ n) {gf : Nat} {lb : Array Value} (hg : a.eval g = .func (.func gf) #[] lb) (hFg : F.fn gf) (eg : ∀ args w, (callFunc gf args).run P w = .ok (.enter gf args) w)
    {L B : Nat} {xs : List Value} (hB : B < w.heap.size) (hseq : Iter F (n - 1) P gf lb L B xs w) (hps : ps.size = 1)
    (I : Nat → World → Prop) (Ix : Code → Nat → World → Prop) (hI : Hold B w.heap.size I) (hIx : ∀ c, Hold B w.heap.size (Ix c)) (h0 : I 0 w) (a₁ : Value → Act)
    (hassign : ∀ (l : Nat) (v : Value) (W : World) (K : Act → World → Prop), K (a₁ v) W →
      assign.wpIn (F.inRound l) (n - 1 - 1) P (Exit.then K (fun _ _ _ => False)) { tmps := (ps.zip #[v]).foldl (fun t (p, v) => t.setIfInBounds p v) a.tmps, defers := [] } W)
    (hbody : ∀ (l k : Nat) (v : Value) (W : World), I k W → xs[k]? = some v → w.heap.size ≤ W.heap.size → body.wpIn (F.inRound l) (n - 1 - 1) P (cutPost L B I Ix k W) (a₁ v) W)
    (hdone : ∀ (D : Nat) (W : World), I xs.length W → W.heap[D]? = some (.deferred (some [])) → w.heap.size ≤ D → Q .normal { a with defers := { target := .collected D, args := #[] } :: a.defers } W)
    (hstop : ∀ (D : Nat) (c : Code) (k : Nat) (W : World), Ix c k W → W.heap[D]? = some (.deferred (some [])) → w.heap.size ≤ D → c.wpIn F n P Q { a with defers := { target := .collected D, args := #[] } :: a.defers } W) :
    (Code.rangeFunc g ps assign body).wpIn F n P Q a w := by
  refine wpIn_rangeFunc ?_
  intro fn hfn
  rw [hro]
  obtain ⟨rec, hrec⟩ : ∃ rec : LoopState → Option Code → Loop, rec = fun st pe => { state := st, pending := pe, fn, tmps := a.tmps, params := ps, assign, body, defers := w.heap.size } := ⟨_, rfl⟩
  obtain ⟨W1, hW1⟩ : ∃ W1, (w.alloc (.deferred (some []))).alloc (.loop (rec .ready none)) = W1 := ⟨_, rfl⟩
  have hz1 : W1.heap.size = w.heap.size + 2 := by rw [← hW1]; simp
  have hL1 : W1.heap[w.heap.size + 1]? = some (.loop (rec .ready none)) := by
    rw [← hW1]; have := World.alloc_heap_new (w.alloc (.deferred (some []))) (.loop (rec .ready none)); rwa [World.size_alloc] at this
  have hK1 : W1.heap[w.heap.size]? = some (.deferred (some [])) := by
    rw [← hW1]; exact (Below.heap_alloc _ _ _ (by simp)).trans (World.alloc_heap_new w _)
  have hI1 : I 0 W1 := by rw [← hW1]; exact hI.new _ (hI.new _ h0)
  have hk1 : Keeps L B w W1 := by rw [← hW1]; exact (Keeps.alloc _ _ _ _).trans (Keeps.alloc _ _ _ _)
  refine ⟨w.heap.size + 1, [{ target := .collected w.heap.size, args := #[] }], W1, { target := .fn (.func gf) lb, args := #[.func (.yield (w.heap.size + 1)) #[] #[]] }, W1, gf,
    #[.func (.yield (w.heap.size + 1)) #[] #[]] ++ lb, W1, ?_, ?_, ?_, ?_, fun _ => h1, ?_⟩
  · rw [← hW1, hrec]; exact run_enterLoop_outer _ _ _ _ _
  · simp only [resolve, hg]
    simp [go_sem]
  · intro f' hf'; simp [Target.leads] at hf'; subst hf'; exact hFg
  · simp [invoke, go_sem, eg]
  · -- the invariant with the loop's two blocks beside it
    have hgb : ∀ {W W' : World}, W.grownBy W' (some B) → Harm B w.heap.size W W' := fun h => ⟨some B, h, fun r e => .inl (by cases e; rfl)⟩
    have hst : ∀ {W W' : World} {r : Nat} {o : Obj}, W.grownBy W' (some B) → w.heap.size ≤ r → W.heap[r]? = some o → W'.heap[r]? = some o :=
      fun {W W' r o} h hr hl => (h.block r (Array.getElem?_eq_some_iff.1 hl).1 (by intro e; cases e; omega)).trans hl
    refine (hseq (w.heap.size + 1)
      (fun k W => I k W ∧ W.heap[w.heap.size + 1]? = some (.loop (rec .ready none)) ∧ W.heap[w.heap.size]? = some (.deferred (some [])))
      (fun k W => ∃ c, Ix c k W ∧ W.heap[w.heap.size + 1]? = some (.loop (rec .done (some c))) ∧ W.heap[w.heap.size]? = some (.deferred (some [])))
      W1 hk1
      (fun k A C hs hg' => ⟨hI k A C hs.1 (hgb hg'), hst hg' (by omega) hs.2.1, hst hg' (Nat.le_refl _) hs.2.2⟩)
      (fun k A C hs hg' => by
        obtain ⟨c, hc, hl, hk⟩ := hs
        exact ⟨c, hIx c k A C hc (hgb hg'), hst hg' (by omega) hl, hst hg' (Nat.le_refl _) hk⟩)
      ?_ ⟨hI1, hL1, hK1⟩).mono ?_
    · -- one round
      rintro k W v ⟨hi, hl, hk⟩ hv
      have hlt : w.heap.size + 1 < W.heap.size := (Array.getElem?_eq_some_iff.1 hl).1
      have hy := run_yield (P := P) (args := #[v]) hl (by rw [hrec]; exact hps.symm)
      rw [hrec] at hy
      refine ⟨fn, _, assign, body, hy, roundIn_of_wpIn hfn (hassign _ v W _ ⟨_, run_beginRound hl (by rw [hrec]), ?_⟩)⟩
      have hl2 : (W.putObj (w.heap.size + 1) (.loop { rec .ready none with state := .busy })).heap[w.heap.size + 1]? = some (.loop { rec .ready none with state := .busy }) := World.putObj_heap_same hlt
      have hk2 : (W.putObj (w.heap.size + 1) (.loop { rec .ready none with state := .busy })).heap[w.heap.size]? = some (.deferred (some [])) := (World.putObj_heap_other (by omega)).trans hk
      have hz2 : (W.putObj (w.heap.size + 1) (.loop { rec .ready none with state := .busy })).heap.size = W.heap.size := World.putObj_size
      have hi2 := hI.put (.loop { rec .ready none with state := .busy }) hi (Nat.le_succ _) hl rfl
      refine wpIn_mono (hbody _ k v _ hi2 hv (by rw [hz2]; omega)) ?_
      have fin : ∀ (jump : Option Code) (W3 : World), Keeps L B (W.putObj (w.heap.size + 1) (.loop { rec .ready none with state := .busy })) W3 →
          (Instr.endRound (w.heap.size + 1) jump).run P W3 = .ok (.bool jump.isNone) (W3.putObj (w.heap.size + 1) (.loop (rec (if jump.isNone then .ready else .done) jump))) ∧
          W3.heap[w.heap.size + 1]? = some (.loop { rec .ready none with state := .busy }) ∧
          (W3.putObj (w.heap.size + 1) (.loop (rec (if jump.isNone then .ready else .done) jump))).heap[w.heap.size + 1]? = some (.loop (rec (if jump.isNone then .ready else .done) jump)) ∧
          (W3.putObj (w.heap.size + 1) (.loop (rec (if jump.isNone then .ready else .done) jump))).heap[w.heap.size]? = some (.deferred (some [])) := fun jump W3 hk3 => by
        have hl3 := (hk3.block _ (.inr (by omega)) (by rw [hz2]; omega)).trans hl2
        have hd3 := (hk3.block _ (.inr (by omega)) (by rw [hz2]; omega)).trans hk2
        have := run_endRound (P := P) jump hl3
        rw [hrec] at this ⊢
        exact ⟨this, by rw [hrec] at hl3; exact hl3, World.putObj_heap_same (Array.getElem?_eq_some_iff.1 hl3).1, (World.putObj_heap_other (by omega)).trans hd3⟩
      have keep : ∀ (W3 : World) (o : Obj), Keeps L B (W.putObj (w.heap.size + 1) (.loop { rec .ready none with state := .busy })) W3 →
          o = .loop (rec .ready none) → Keeps L B W (W3.putObj (w.heap.size + 1) o) := fun W3 o hk3 ho => by
        refine ⟨by rw [World.putObj_size]; have := hk3.size; rw [hz2] at this; exact this, fun r hb hr => ?_⟩
        by_cases e : r = w.heap.size + 1
        · subst e; rw [World.putObj_heap_same (Nat.lt_of_lt_of_le hlt (by have := hk3.size; rw [hz2] at this; exact this)), ho]; exact hl.symm
        · rw [World.putObj_heap_other e, hk3.block r hb (by rw [hz2]; exact hr), World.putObj_heap_other e]
      rintro e a3 W3 hp
      cases e with
      | normal =>
        obtain ⟨hk3, hi3⟩ := hp
        obtain ⟨hr, hl3, hl4, hk4⟩ := fin none W3 hk3
        exact ⟨_, _, hr, .inl ⟨rfl, ⟨hI.put _ hi3 (Nat.le_succ _) hl3 rfl, hl4, hk4⟩, keep W3 _ hk3 (by simp)⟩⟩
      | ret =>
        obtain ⟨hk3, hi3⟩ := hp
        obtain ⟨hr, hl3, hl4, hk4⟩ := fin (some .ret) W3 hk3
        exact ⟨_, _, hr, .inr ⟨rfl, .ret, (hIx _).put _ hi3 (Nat.le_succ _) hl3 rfl, hl4, hk4⟩⟩
      | exit id =>
        obtain ⟨hk3, hi3⟩ := hp
        obtain ⟨hr, hl3, hl4, hk4⟩ := fin (some (.exit id)) W3 hk3
        exact ⟨_, _, hr, .inr ⟨rfl, .exit id, (hIx _).put _ hi3 (Nat.le_succ _) hl3 rfl, hl4, hk4⟩⟩
      | goto t =>
        obtain ⟨hk3, hi3⟩ := hp
        obtain ⟨hr, hl3, hl4, hk4⟩ := fin (some (.goto t)) W3 hk3
        exact ⟨_, _, hr, .inr ⟨rfl, .goto t, (hIx _).put _ hi3 (Nat.le_succ _) hl3 rfl, hl4, hk4⟩⟩
      | panic ch => exact hp.elim
      | outgrown => exact hp.elim
    · -- behind the iterator
      rintro e W2 ⟨⟨v, rfl⟩, (⟨hi, hl, hk⟩ | ⟨k, c, hi, hl, hk⟩)⟩
      · exact ⟨none, _, by have := run_endLoop (P := P) hl (by rw [hrec]; simp); rw [hrec] at this; exact this, hdone _ _ (hI.put _ hi (Nat.le_succ _) hl rfl) ((World.putObj_heap_other (by omega)).trans hk) (Nat.le_refl _)⟩
      · exact ⟨some c, _, by have := run_endLoop (P := P) hl (by rw [hrec]; simp); rw [hrec] at this; exact this, hstop _ c k _ ((hIx c).put _ hi (Nat.le_succ _) hl rfl) ((World.putObj_heap_other (by omega)).trans hk) (Nat.le_refl _)⟩
end Go.Proofs.Cuts
