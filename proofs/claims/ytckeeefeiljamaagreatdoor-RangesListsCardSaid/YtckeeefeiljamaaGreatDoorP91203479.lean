/- Words and laws that the theorem leans on (part 1). -/
import Derived.Tactics
import Derived.Laws.CopyRow
import Derived.Laws.Rows
import Derived.Laws.Tables
import Derived.Great.BuildSlice
import Derived.RowKit3
import Derived.Below
import Derived.RangeFuncRecord
import Derived.TacticsIn
import Derived.RangeFuncCalls
import Derived.ControlIn
import Derived.OrdersIn
import Derived.RangeFuncLeaves
import Derived.IntWalk
set_option linter.unusedVariables false
set_option linter.unusedSimpArgs false

set_option linter.unusedVariables false
namespace Go.Lg
open Go
inductive T where
  | sc (v : Value)
  | ls (xs : List T)
  | ag (xs : List T)
def T.cells : T → List T
  | .ag xs => xs
  | t => [t]
inductive Rep (w : World) (M : Nat → Nat → Prop) : T → Value → Prop
  | sc (v : Value) : v.oneCell' = true → Rep w M (.sc v) v
  | ag (xs : List T) (cs : Array Value) : cs.size = xs.length → (∀ (i : Nat) (v : Value), cs[i]? = some v → v.oneCell' = true) →
      (∀ (i : Nat) (x : T) (v : Value), xs[i]? = some x → cs[i]? = some v → Rep w M x v) → Rep w M (.ag xs) (.agg cs)
  | nil (a : Option Addr) (cap : Nat) : Rep w M (.ls []) (.slice a 0 cap)
  | ls (xs : List T) (b off es cap : Nat) (f : Nat → Nat → Value) : xs.length ≤ cap → (∀ x, x ∈ xs → x.cells.length = es) →
      (∀ (i j : Nat), i < xs.length → j < es → M b (off + i * es + j)) →
      (∀ (i j : Nat), i < xs.length → j < es → w.cell? ⟨b, off + i * es + j, none⟩ = some (f i j)) →
      (∀ (i j : Nat), i < xs.length → j < es → (f i j).oneCell' = true) →
      (∀ (i j : Nat) (x y : T), xs[i]? = some x → x.cells[j]? = some y → Rep w M y (f i j)) →
      Rep w M (.ls xs) (.slice (some ⟨b, off, none⟩) xs.length cap)
theorem Rep.mono {w w' : World} {M M' : Nat → Nat → Prop} {t : T} {v : Value} (h : Rep w M t v)
    (hm : ∀ b o, M b o → M' b o ∧ w'.cell? ⟨b, o, none⟩ = w.cell? ⟨b, o, none⟩) : Rep w' M' t v := by
  induction h with
  | sc v h => exact .sc v h
  | ag xs cs h1 h2 h3 ih => exact .ag xs cs h1 h2 ih
  | nil a cap => exact .nil a cap
  | ls xs b off es cap f h1 h2 h3 h4 h5 h6 ih =>
    exact .ls xs b off es cap f h1 h2 (fun i j hi hj => (hm _ _ (h3 i j hi hj)).1) (fun i j hi hj => ((hm _ _ (h3 i j hi hj)).2).trans (h4 i j hi hj)) h5 ih
inductive Loc where
  | s (t : Nat)
  | l (t : Nat)
  | e (i : Nat)
  deriving DecidableEq
def Loc.eqb : Loc → Loc → Bool
  | .s a, .s b => Nat.beq a b
  | .l a, .l b => Nat.beq a b
  | .e a, .e b => Nat.beq a b
  | _, _ => false
theorem Loc.eqb_iff {a b : Loc} : a.eqb b = true ↔ a = b := by
  cases a <;> cases b <;> simp [Loc.eqb]
theorem Loc.eqb_self (a : Loc) : a.eqb a = true := Loc.eqb_iff.2 rfl
theorem Loc.eqb_ne {a b : Loc} (h : a ≠ b) : a.eqb b = false := by
  cases hh : a.eqb b with
  | false => rfl
  | true => exact absurd (Loc.eqb_iff.1 hh) h
def Loc.isL : Loc → Bool
  | .l _ => true
  | _ => false
def Loc.isBlk : Loc → Bool
  | .s _ => false
  | _ => true
theorem Loc.isL_blk {κ : Loc} (h : κ.isL = true) : κ.isBlk = true := by cases κ <;> first | rfl | cases h
inductive AV where
  | unk
  | und
  | tr (t : T)
  | own (ty : TypeId) (xs : List T)
  | raw (ty : TypeId) (z : Bool) (xs : List T)
  | rtup (ty : TypeId) (z : Bool) (xs : List T) (rest : List T)
  | ptr (k : Loc) (off : Nat)
  | sl (k : Loc) (len cap : Nat)
  | ep (cs : List T) (off : Nat)
  | agg (xs : List AV)
  | tup (xs : List AV)
  | fn (f : FuncId) (caps : List AV)
  | blk (ty : TypeId) (cells : List AV)
abbrev Store := List (Loc × AV)
def lk : Store → Loc → Option AV
  | [], _ => none
  | (k, v) :: r, l => match k.eqb l with
    | true => some v
    | false => lk r l
theorem lk_cons (k : Loc) (v : AV) (m : Store) (l : Loc) : lk ((k, v) :: m) l = if k = l then some v else lk m l := by
  show (match k.eqb l with | true => some v | false => lk m l) = _
  by_cases h : k = l
  · subst h; rw [Loc.eqb_self, if_pos rfl]
  · rw [Loc.eqb_ne h, if_neg h]
theorem lk_self (k : Loc) (v : AV) (m : Store) : lk ((k, v) :: m) k = some v := by rw [lk_cons, if_pos rfl]
theorem lk_ne {k l : Loc} (v : AV) (m : Store) (h : k ≠ l) : lk ((k, v) :: m) l = lk m l := by rw [lk_cons, if_neg h]
inductive Refs (κ : Loc) : AV → Prop
  | ptr (off : Nat) : Refs κ (.ptr κ off)
  | sl (len cap : Nat) : Refs κ (.sl κ len cap)
  | agg (xs : List AV) (x : AV) : x ∈ xs → Refs κ x → Refs κ (.agg xs)
  | tup (xs : List AV) (x : AV) : x ∈ xs → Refs κ x → Refs κ (.tup xs)
  | fn (f : FuncId) (xs : List AV) (x : AV) : x ∈ xs → Refs κ x → Refs κ (.fn f xs)
  | blk (ty : TypeId) (xs : List AV) (x : AV) : x ∈ xs → Refs κ x → Refs κ (.blk ty xs)
mutual
def AV.refs (κ : Loc) : AV → Bool
  | .ptr k _ => k.eqb κ
  | .sl k _ _ => k.eqb κ
  | .agg xs => refsL κ xs
  | .tup xs => refsL κ xs
  | .fn _ xs => refsL κ xs
  | .blk _ xs => refsL κ xs
  | _ => false
def refsL (κ : Loc) : List AV → Bool
  | [] => false
  | x :: xs => x.refs κ || refsL κ xs
end
theorem refsL_mem {κ : Loc} : ∀ {xs : List AV} {x : AV}, x ∈ xs → x.refs κ = true → refsL κ xs = true
  | y :: ys, x, hx, h => by
    simp only [refsL, Bool.or_eq_true]
    rcases List.mem_cons.1 hx with rfl | hx
    · exact .inl h
    · exact .inr (refsL_mem hx h)
theorem refs_of {κ : Loc} {v : AV} (h : Refs κ v) : v.refs κ = true := by
  induction h with
  | ptr off => simp [AV.refs, Loc.eqb_self]
  | sl len cap => simp [AV.refs, Loc.eqb_self]
  | agg xs x hx _ ih => simp only [AV.refs]; exact refsL_mem hx ih
  | tup xs x hx _ ih => simp only [AV.refs]; exact refsL_mem hx ih
  | fn f xs x hx _ ih => simp only [AV.refs]; exact refsL_mem hx ih
  | blk ty xs x hx _ ih => simp only [AV.refs]; exact refsL_mem hx ih
def refsM (κ : Loc) : Store → Bool
  | [] => false
  | (_, v) :: r => v.refs κ || refsM κ r
theorem refsM_lk {κ l : Loc} {v : AV} : ∀ {m : Store}, refsM κ m = false → lk m l = some v → ¬ Refs κ v
  | (k, u) :: r, hn, hg, hr => by
    simp only [refsM, Bool.or_eq_false_iff] at hn
    rw [lk_cons] at hg
    split at hg
    · obtain rfl := Option.some.inj hg
      rw [refs_of hr] at hn; exact absurd hn.1 (by simp)
    · exact refsM_lk hn.2 hg hr
theorem refsM_lk' {κ l : Loc} {v : AV} : ∀ {m : Store}, refsM κ m = false → lk m l = some v → v.refs κ = false
  | (k, u) :: r, hn, hg => by
    simp only [refsM, Bool.or_eq_false_iff] at hn
    rw [lk_cons] at hg
    split at hg
    · obtain rfl := Option.some.inj hg; exact hn.1
    · exact refsM_lk' hn.2 hg
inductive VRel (w : World) (M : Nat → Nat → Prop) (bk : Loc → Option Nat) : AV → Value → Prop
  | unk (v : Value) : VRel w M bk .unk v
  | und : VRel w M bk .und undef
  | tr (t : T) (v : Value) : Rep w M t v → VRel w M bk (.tr t) v
  | ptr (κ : Loc) (off b : Nat) : κ.isBlk = true → bk κ = some b → VRel w M bk (.ptr κ off) (.pointer (some ⟨b, off, none⟩))
  | sl (κ : Loc) (len cap b : Nat) : κ.isBlk = true → bk κ = some b → len ≤ cap → VRel w M bk (.sl κ len cap) (.slice (some ⟨b, 0, none⟩) len cap)
  | ep (cs : List T) (off b o : Nat) (f : Nat → Value) : (∀ j, j < cs.length → M b (o + j)) → (∀ j, j < cs.length → w.cell? ⟨b, o + j, none⟩ = some (f j)) →
      (∀ j, j < cs.length → (f j).oneCell' = true) → (∀ j y, cs[j]? = some y → Rep w M y (f j)) → VRel w M bk (.ep cs off) (.pointer (some ⟨b, o + off, none⟩))
  | agg (xs : List AV) (cs : Array Value) : cs.size = xs.length → (∀ (i : Nat) (v : Value), cs[i]? = some v → v.oneCell' = true) →
      (∀ (i : Nat) (x : AV) (v : Value), xs[i]? = some x → cs[i]? = some v → VRel w M bk x v) → VRel w M bk (.agg xs) (.agg cs)
  | tup (xs : List AV) (cs : Array Value) : cs.size = xs.length →
      (∀ (i : Nat) (x : AV) (v : Value), xs[i]? = some x → cs[i]? = some v → VRel w M bk x v) → VRel w M bk (.tup xs) (.tuple cs)
  | fn (f : FuncId) (xs : List AV) (cs : Array Value) : cs.size = xs.length →
      (∀ (i : Nat) (x : AV) (v : Value), xs[i]? = some x → cs[i]? = some v → VRel w M bk x v) → VRel w M bk (.fn f xs) (.func (.func f) #[] cs)
theorem VRel.mono {w w' : World} {M M' : Nat → Nat → Prop} {bk bk' : Loc → Option Nat} {x : AV} {v : Value} (h : VRel w M bk x v)
    (hm : ∀ b o, M b o → M' b o ∧ w'.cell? ⟨b, o, none⟩ = w.cell? ⟨b, o, none⟩) (hb : ∀ κ b, κ.isBlk = true → Refs κ x → bk κ = some b → bk' κ = some b) : VRel w' M' bk' x v := by
  induction h with
  | unk v => exact .unk v
  | und => exact .und
  | tr t v h => exact .tr t v (h.mono hm)
  | ptr κ off b hk h => exact .ptr κ off b hk (hb κ b hk (.ptr off) h)
  | sl κ len cap b hk h hc => exact .sl κ len cap b hk (hb κ b hk (.sl len cap) h) hc
  | ep cs off b o f h1 h2 h3 h4 => exact .ep cs off b o f (fun j hj => (hm _ _ (h1 j hj)).1) (fun j hj => ((hm _ _ (h1 j hj)).2).trans (h2 j hj)) h3 (fun j y hy => (h4 j y hy).mono hm)
  | agg xs cs h1 h2 h3 ih => exact .agg xs cs h1 h2 (fun i x v hx hv => ih i x v hx hv (fun κ b hk hr => hb κ b hk (.agg xs x (List.mem_of_getElem? hx) hr)))
  | tup xs cs h1 h2 ih => exact .tup xs cs h1 (fun i x v hx hv => ih i x v hx hv (fun κ b hk hr => hb κ b hk (.tup xs x (List.mem_of_getElem? hx) hr)))
  | fn f xs cs h1 h2 ih => exact .fn f xs cs h1 (fun i x v hx hv => ih i x v hx hv (fun κ b hk hr => hb κ b hk (.fn f xs x (List.mem_of_getElem? hx) hr)))
def OwnRel (P : Program) (w : World) (M : Nat → Nat → Prop) (ty : TypeId) (xs : List T) (v : Value) (o : Option Nat) : Prop :=
  ∃ i, P.info? ty = some i ∧ (∀ x, x ∈ xs → x.cells.length = i.size) ∧
    ((xs = [] ∧ ∃ ad, v = .slice ad 0 0) ∨ ∃ b off cap cs, o = some b ∧ v = .slice (some ⟨b, off, none⟩) xs.length cap ∧ Rep w M (.ls xs) v ∧
      w.heap[b]? = some (.cells cs ty (0, 0)) ∧ off + cap * i.size ≤ cs.size ∧ xs.length ≤ cap ∧ (∀ k, off + xs.length * i.size ≤ k → ¬ M b k) ∧ ∀ (k : Nat) (u : Value), cs[k]? = some u → u.oneCell' = true)
def RawRel (P : Program) (w : World) (M : Nat → Nat → Prop) (ty : TypeId) (z : Bool) (xs : List T) (v : Value) (o : Option Nat) : Prop :=
  ∃ i, P.info? ty = some i ∧ (∀ x, x ∈ xs → x.cells.length = i.size) ∧
    ((xs = [] ∧ ∃ ad, v = .slice ad 0 0) ∨ ∃ b off cap cs, o = some b ∧ v = .slice (some ⟨b, off, none⟩) xs.length cap ∧ (z = true → off = 0) ∧
      w.heap[b]? = some (.cells cs ty (0, 0)) ∧ off + cap * i.size ≤ cs.size ∧ (z = true → cs.size = cap * i.size) ∧ xs.length ≤ cap ∧ (∀ k, ¬ M b k) ∧
      (∀ (k : Nat) (u : Value), cs[k]? = some u → u.oneCell' = true) ∧
      ∀ (i' j : Nat) (x y : T), xs[i']? = some x → x.cells[j]? = some y → ∃ u, cs[off + i' * i.size + j]? = some u ∧ Rep w M y u)
def SRel (P : Program) (w : World) (M : Nat → Nat → Prop) (Ow : Loc → Nat → Option Nat) : AV → Value → Option Nat → Prop
  | .own ty xs, v, o => OwnRel P w M ty xs v o
  | .raw ty z xs, v, o => RawRel P w M ty z xs v o
  | .rtup ty z xs rest, v, o => ∃ (cv : Value) (cs : Array Value), (v = .tuple (#[cv] ++ cs) ∧ rest ≠ [] ∨ rest = [] ∧ v = .agg #[cv]) ∧ RawRel P w M ty z xs cv o ∧ cs.size = rest.length ∧ ∀ (i : Nat) (x : T) (u : Value), rest[i]? = some x → cs[i]? = some u → Rep w M x u
  | x, v, _ => VRel w M (fun κ => Ow κ 0) x v
def BRel (P : Program) (w : World) (M : Nat → Nat → Prop) (Ow : Loc → Nat → Option Nat) (κ : Loc) (x : AV) : Prop :=
  ∃ ty cells b cs, x = .blk ty cells ∧ Ow κ 0 = some b ∧ w.heap[b]? = some (.cells cs ty (0, 0)) ∧ cs.size = cells.length ∧ (∀ o, ¬ M b o) ∧
    (∀ (i : Nat) (v : Value), cs[i]? = some v → v.oneCell' = true) ∧ ∀ (i : Nat) (y : AV) (v : Value), cells[i]? = some y → cs[i]? = some v → SRel P w M Ow y v (Ow κ (i + 1))
structure Fr (w0 : World) (own0 : Nat → Prop) (M0 : Nat → Nat → Prop) (w : World) : Prop where
  os : w.os = w0.os
  tape : w.tape = w0.tape
  output : w.output = w0.output
  size : w0.heap.size ≤ w.heap.size
  block : ∀ b, b < w0.heap.size → ¬ own0 b → w.heap[b]? = w0.heap[b]?
  shape : ∀ (b : Nat) (cs : Array Value) (ty : TypeId) (z : Nat × Nat), w0.heap[b]? = some (Obj.cells cs ty z) → ∃ cs' : Array Value, w.heap[b]? = some (Obj.cells cs' ty z) ∧ cs'.size = cs.size
  keep : ∀ b o, M0 b o → w.cell? ⟨b, o, none⟩ = w0.cell? ⟨b, o, none⟩
structure Ctx where
  w0 : World
  own0 : Nat → Prop
  M0 : Nat → Nat → Prop
  ro : Nat → Prop
  G : World → Prop
  stab : ∀ w, Fr w0 own0 M0 w → G w
  ds : List Deferred
  rd : Option Nat
  rl : ∀ l, rd = some l → (∃ r, w0.heap[l]? = some (.loop r)) ∧ ¬ own0 l
  pin : Loc → Option Nat
  base : ∃ w1, G w1 ∧ (∀ b, own0 b → w1.heap.size ≤ b) ∧ w1.heap.size ≤ w0.heap.size
def markD (D : Nat) : Deferred := { target := .collected D, args := #[] }
structure Rel (P : Program) (Γ : Ctx) (M : Nat → Nat → Prop) (Ow : Loc → Nat → Option Nat) (n : Nat) (m : Store) (a : Act) (w : World) : Prop where
  size : a.tmps.size = n
  defers : ∃ Ds : List Nat, a.defers = Ds.map markD ++ Γ.ds ∧ Ds.Nodup ∧ ∀ D, D ∈ Ds → Γ.w0.heap.size ≤ D ∧ w.heap[D]? = some (.deferred (some []))
  slot : ∀ t v, lk m (.s t) = some v → SRel P w M Ow v (a.tmps.getD t undef) (Ow (.s t) 0)
  blk : ∀ κ v, κ.isBlk = true → lk m κ = some v → BRel P w M Ow κ v
  inj : ∀ l i l' i' b, Ow l i = some b → Ow l' i' = some b → l = l' ∧ i = i'
  lt : ∀ l i b, Ow l i = some b → b < w.heap.size
  mine : ∀ l i b, Ow l i = some b → Γ.own0 b ∨ Γ.w0.heap.size ≤ b ∨ ∃ j, l = .e j ∧ Γ.ro j
  mlt : ∀ b o, M b o → b < w.heap.size
  mold : ∀ b o, Γ.M0 b o → M b o
  mnew : ∀ b o, M b o → Γ.M0 b o ∨ Γ.own0 b ∨ Γ.w0.heap.size ≤ b
  fr : Fr Γ.w0 Γ.own0 Γ.M0 w
  pin : ∀ κ b, κ.isBlk = true → Γ.pin κ = some b → Ow κ 0 = some b
def RelX (P : Program) (Γ : Ctx) (n : Nat) (m : Store) (a : Act) (w : World) : Prop := ∃ M Ow, Rel P Γ M Ow n m a w
theorem SRel.mono {P : Program} {w w' : World} {M M' : Nat → Nat → Prop} {Ow Ow' : Loc → Nat → Option Nat} {x : AV} {v : Value} {o o' : Option Nat} (h : SRel P w M Ow x v o)
    (hm : ∀ b k, M b k → M' b k ∧ w'.cell? ⟨b, k, none⟩ = w.cell? ⟨b, k, none⟩) (hb : ∀ κ b, κ.isBlk = true → Refs κ x → Ow κ 0 = some b → Ow' κ 0 = some b)
    (ho : ∀ b, o = some b → o' = some b ∧ (∀ (cs : Array Value) (ty : TypeId), w.heap[b]? = some (Obj.cells cs ty (0, 0)) → w'.heap[b]? = some (Obj.cells cs ty (0, 0))) ∧ (∀ k, M' b k → M b k)) :
    SRel P w' M' Ow' x v o' := by
  have base : VRel w M (fun κ => Ow κ 0) x v → VRel w' M' (fun κ => Ow' κ 0) x v := fun h => h.mono hm (fun κ b hk hr e => hb κ b hk hr e)
  have rawm : ∀ {ty : TypeId} {z : Bool} {xs : List T} {v : Value}, RawRel P w M ty z xs v o → RawRel P w' M' ty z xs v o' := by
    intro ty z xs v h
    obtain ⟨i, hi, hx, h⟩ := h
    refine ⟨i, hi, hx, ?_⟩
    rcases h with h | ⟨b, off, cap, cs, rfl, rfl, hz, hh, hs, hzs, hc, hn, h1, hr⟩
    · exact .inl h
    · obtain ⟨e, hsh, hM⟩ := ho b rfl
      exact .inr ⟨b, off, cap, cs, e, rfl, hz, hsh cs ty hh, hs, hzs, hc, fun k hM' => hn k (hM k hM'), h1, fun i' j x y hx hy => by
        obtain ⟨u, hu, hr'⟩ := hr i' j x y hx hy
        exact ⟨u, hu, hr'.mono hm⟩⟩
  cases x with
  | own ty xs =>
    obtain ⟨i, hi, hx, h⟩ := h
    refine ⟨i, hi, hx, ?_⟩
    rcases h with h | ⟨b, off, cap, cs, rfl, rfl, hr, hh, hs, hc, hn, h1⟩
    · exact .inl h
    · obtain ⟨e, hsh, hM⟩ := ho b rfl
      exact .inr ⟨b, off, cap, cs, e, rfl, hr.mono hm, hsh cs ty hh, hs, hc, fun k hk hM' => hn k hk (hM k hM'), h1⟩
  | raw ty z xs => exact rawm h
  | rtup ty z xs rest =>
    obtain ⟨cv, cs, e, h1, h2, h3⟩ := h
    exact ⟨cv, cs, e, rawm h1, h2, fun i x u hx hu => (h3 i x u hx hu).mono hm⟩
  | unk => exact base h
  | und => exact base h
  | tr t => exact base h
  | ptr k off => exact base h
  | sl k len cap => exact base h
  | ep cs off => exact base h
  | agg xs => exact base h
  | tup xs => exact base h
  | fn f caps => exact base h
  | blk ty cells => exact base h
end Go.Lg

set_option linter.unusedVariables false
namespace Go.Lg
open Go Go.RowKit
theorem srel_of {P : Program} {w : World} {M : Nat → Nat → Prop} {Ow : Loc → Nat → Option Nat} {x : AV} {v : Value} (h : VRel w M (fun κ => Ow κ 0) x v) (o : Option Nat) : SRel P w M Ow x v o := by
  cases x with
  | own ty xs => cases h
  | raw ty z xs => cases h
  | rtup ty z xs rest => cases h
  | _ => exact h
def AV.isOwn : AV → Bool
  | .own _ _ => true
  | .raw _ _ _ => true
  | .rtup _ _ _ _ => true
  | _ => false
theorem vrel_of {P : Program} {w : World} {M : Nat → Nat → Prop} {Ow : Loc → Nat → Option Nat} {x : AV} {v : Value} {o : Option Nat} (h : SRel P w M Ow x v o) (hx : x.isOwn = false) : VRel w M (fun κ => Ow κ 0) x v := by
  cases x with
  | own ty xs => cases hx
  | raw ty z xs => cases hx
  | rtup ty z xs rest => cases hx
  | _ => exact h
def AV.deg : AV → AV
  | .own _ xs => .tr (.ls xs)
  | .raw _ _ _ => .unk
  | .rtup _ _ _ [] => .unk
  | .rtup _ _ _ (r :: rs) => .tup (.unk :: (r :: rs).map .tr)
  | v => v
theorem deg_vrel {P : Program} {w : World} {M : Nat → Nat → Prop} {Ow : Loc → Nat → Option Nat} {x : AV} {v : Value} {o : Option Nat} (h : SRel P w M Ow x v o) : VRel w M (fun κ => Ow κ 0) x.deg v := by
  cases x with
  | own ty xs =>
    obtain ⟨i, hi, hx, h⟩ := h
    rcases h with ⟨rfl, ad, rfl⟩ | ⟨b, off, cap, cs, rfl, rfl, hr, _⟩
    · exact .tr _ _ (.nil ad 0)
    · exact .tr _ _ hr
  | raw ty z xs => exact .unk v
  | rtup ty z xs rest =>
    obtain ⟨cv, cs, e, h1, h2, h3⟩ := h
    cases rest with
    | nil => exact .unk v
    | cons r0 rs =>
    obtain ⟨rfl, _⟩ := e.resolve_right (fun h => by cases h.1)
    refine .tup _ _ (by simp at h2 ⊢; omega) fun i x u hx hu => ?_
    cases i with
    | zero => simp at hx; subst hx; exact .unk _
    | succ i =>
      rw [List.getElem?_cons_succ, List.getElem?_map] at hx
      obtain ⟨t, ht, rfl⟩ := Option.map_eq_some_iff.1 hx
      rw [Array.getElem?_append_right (by simp)] at hu
      exact .tr _ _ (h3 i t u ht (by simpa using hu))
  | _ => exact h
theorem own_any {P : Program} {w : World} {M : Nat → Nat → Prop} {Ow Ow' : Loc → Nat → Option Nat} {x : AV} {v : Value} {o : Option Nat} (hx : x.isOwn = true) (h : SRel P w M Ow x v o) : SRel P w M Ow' x v o := by
  cases x with
  | own ty xs => exact h
  | raw ty z xs => exact h
  | rtup ty z xs rest => exact h
  | _ => cases hx
theorem own_refs {x : AV} (hx : x.isOwn = true) (κ : Loc) : ¬ Refs κ x := by
  intro h
  cases x with
  | own ty xs => cases h
  | raw ty z xs => cases h
  | rtup ty z xs rest => cases h
  | _ => cases hx
theorem tmps_put_self {a : Act} {d n : Nat} {v : Value} (hs : a.tmps.size = n) (hd : d < n) : (a.put (some d) v).tmps.getD d undef = v := by
  simp [Act.put, Array.getD_eq_getD_getElem?, hs, hd]
theorem tmps_put_ne {a : Act} {d t : Nat} {v : Value} (h : d ≠ t) : (a.put (some d) v).tmps.getD t undef = a.tmps.getD t undef := by
  simp [Act.put, Array.getD_eq_getD_getElem?, Array.getElem?_setIfInBounds_ne h]
section
variable {P : Program} {Γ : Ctx} {M : Nat → Nat → Prop} {Ow : Loc → Nat → Option Nat} {n : Nat} {m : Store} {a : Act} {w : World}
theorem Rel.put (h : Rel P Γ M Ow n m a w) {d : Nat} (hd : d < n) {v : AV} {cv : Value} (hv : VRel w M (fun κ => Ow κ 0) v cv) :
    Rel P Γ M Ow n ((.s d, v) :: m) (a.put (some d) cv) w where
  size := by simpa [Act.put] using h.size
  defers := h.defers
  slot := by
    intro t u hu
    rw [lk_cons] at hu
    split at hu
    · rename_i e
      obtain rfl := Option.some.inj hu
      obtain rfl : d = t := by injection e
      rw [tmps_put_self h.size hd]; exact srel_of hv _
    · rename_i e
      rw [tmps_put_ne (fun e' => e (by rw [e']))]
      exact h.slot t u hu
  blk := by
    intro κ u hk hu
    rw [lk_cons] at hu
    split at hu
    · rename_i e; subst e; cases hk
    · exact h.blk κ u hk hu
  inj := h.inj
  lt := h.lt
  mine := h.mine
  mlt := h.mlt
  mold := h.mold
  mnew := h.mnew
  fr := h.fr
  pin := h.pin
theorem Rel.put_any (h : Rel P Γ M Ow n m a w) {d : Nat} (hd : d < n) {cv : Value} : Rel P Γ M Ow n ((.s d, .unk) :: m) (a.put (some d) cv) w :=
  h.put hd (.unk cv)
theorem Rel.sub (h : Rel P Γ M Ow n m a w) {m' : Store} (hs : ∀ l v, lk m' l = some v → lk m l = some v) : Rel P Γ M Ow n m' a w :=
  { h with slot := fun t v hv => h.slot t v (hs _ _ hv), blk := fun κ v hk hv => h.blk κ v hk (hs _ _ hv) }
theorem Rel.ext (h : Rel P Γ M Ow n m a w) {w' : World} {M' : Nat → Nat → Prop} (hw : Below w.heap.size w w') (hM : ∀ b o, M b o → M' b o)
    (hN : ∀ b o, M' b o → M b o ∨ w.heap.size ≤ b) (hL : ∀ b o, M' b o → b < w'.heap.size) : Rel P Γ M' Ow n m a w' := by
  have hm : ∀ b o, M b o → M' b o ∧ w'.cell? ⟨b, o, none⟩ = w.cell? ⟨b, o, none⟩ := fun b o hb => ⟨hM b o hb, hw.cell (p := ⟨b, o, none⟩) (h.mlt b o hb)⟩
  have hown : ∀ l i b, Ow l i = some b → Ow l i = some b ∧ (∀ (cs : Array Value) (ty : TypeId), w.heap[b]? = some (Obj.cells cs ty (0, 0)) → w'.heap[b]? = some (Obj.cells cs ty (0, 0))) ∧ (∀ k, M' b k → M b k) := by
    intro l i b hb
    have hlt := h.lt l i b hb
    exact ⟨hb, fun cs ty hh => (hw.block b hlt).trans hh, fun k hk => (hN b k hk).resolve_right (by omega)⟩
  exact {
    size := h.size
    defers := h.defers.imp fun Ds hd => ⟨hd.1, hd.2.1, fun D hm => ⟨(hd.2.2 D hm).1, (hw.block D (Array.getElem?_eq_some_iff.1 (hd.2.2 D hm).2).1).trans (hd.2.2 D hm).2⟩⟩
    slot := fun t v hv => (h.slot t v hv).mono hm (fun _ _ _ _ e => e) (fun b hb => hown _ _ b hb)
    blk := by
      intro κ v hk hv
      obtain ⟨ty, cells, b, cs, rfl, ho, hh, hs, hn, h1, hc⟩ := h.blk κ v hk hv
      have hlt := h.lt _ _ b ho
      exact ⟨ty, cells, b, cs, rfl, ho, (hw.block b hlt).trans hh, hs, fun o hm' => hn o ((hN b o hm').resolve_right (by omega)), h1,
        fun i y u hy hu => (hc i y u hy hu).mono hm (fun _ _ _ _ e => e) (fun b hb => hown _ _ b hb)⟩
    inj := h.inj
    lt := fun l i b hb => Nat.lt_of_lt_of_le (h.lt l i b hb) hw.size
    mine := h.mine
    mlt := hL
    mold := fun b o hb => hM _ _ (h.mold b o hb)
    mnew := fun b o hb => by
      rcases hN b o hb with h' | h'
      · exact h.mnew b o h'
      · exact .inr (.inr (Nat.le_trans h.fr.size h'))
    pin := h.pin
    fr := {
      os := hw.os.trans h.fr.os
      tape := hw.tape.trans h.fr.tape
      output := hw.output.trans h.fr.output
      size := Nat.le_trans h.fr.size hw.size
      block := fun b hb ho => (hw.block b (Nat.lt_of_lt_of_le hb h.fr.size)).trans (h.fr.block b hb ho)
      shape := by
        intro b cs ty z hz
        obtain ⟨cs', h1, h2⟩ := h.fr.shape b cs ty z hz
        exact ⟨cs', (hw.block b (Array.getElem?_eq_some_iff.1 h1).1).trans h1, h2⟩
      keep := fun b o hb => (hm b o (h.mold b o hb)).2.trans (h.fr.keep b o hb) } }
theorem Rel.addblk (h : Rel P Γ M Ow n m a w) {κ : Loc} (hk : κ.isBlk = true) (hpn : Γ.pin κ = none) (hr : refsM κ m = false) {b : Nat} {cs : Array Value} {ty : TypeId} {cells : List AV}
    (hb : w.heap[b]? = some (.cells cs ty (0, 0))) (hu : ∀ l i, Ow l i ≠ some b) (h0 : Γ.w0.heap.size ≤ b) (hm : ∀ o, ¬ M b o) (hs : cs.size = cells.length)
    (h1 : ∀ (i : Nat) (v : Value), cs[i]? = some v → v.oneCell' = true) (hc : ∀ (i : Nat) (y : AV) (v : Value), cells[i]? = some y → cs[i]? = some v → SRel P w M Ow y v none)
    (hrc : refsL κ cells = false) :
    Rel P Γ M (fun l i => if l = κ then (if i = 0 then some b else none) else Ow l i) n ((κ, .blk ty cells) :: m) a w := by
  have key : ∀ {x : AV} {v : Value} {o : Option Nat}, ¬ Refs κ x → SRel P w M Ow x v o → SRel P w M (fun l i => if l = κ then (if i = 0 then some b else none) else Ow l i) x v o := by
    intro x v o hx hv
    refine hv.mono (fun b o h => ⟨h, rfl⟩) ?_ (fun b hb => ⟨hb, fun cs ty h => h, fun k h => h⟩)
    intro κ' b' _ hr' e
    have : κ' ≠ κ := fun e' => hx (e' ▸ hr')
    simp only [if_neg this]; exact e
  exact {
    size := h.size
    defers := h.defers
    slot := by
      intro t v hv
      have hne : (Loc.s t) ≠ κ := fun e => by rw [← e] at hk; cases hk
      rw [lk_ne _ _ (fun e => hne e.symm)] at hv
      have := key (refsM_lk hr hv) (h.slot t v hv)
      simpa only [if_neg hne] using this
    blk := by
      intro κ' v hk' hv
      rw [lk_cons] at hv
      split at hv
      · rename_i e; subst e
        obtain rfl := Option.some.inj hv
        refine ⟨ty, cells, b, cs, rfl, by simp, hb, hs, hm, h1, ?_⟩
        intro i y v hy hv'
        simp only [if_true, if_neg (Nat.succ_ne_zero i)]
        refine key ?_ (hc i y v hy hv')
        intro hr'
        have := refsL_mem (List.mem_of_getElem? hy) (refs_of hr')
        rw [hrc] at this; cases this
      · rename_i e
        obtain ⟨ty', cells', b', cs', rfl, ho', hh', hs', hn', h1', hc'⟩ := h.blk κ' v hk' hv
        have e' : κ' ≠ κ := fun x => e x.symm
        refine ⟨ty', cells', b', cs', rfl, by simp only [if_neg e']; exact ho', hh', hs', hn', h1', ?_⟩
        intro i y v hy hv'
        have hx : ¬ Refs κ y := fun hr' => refsM_lk hr hv (.blk ty' cells' y (List.mem_of_getElem? hy) hr')
        have := key hx (hc' i y v hy hv')
        simpa only [if_neg e'] using this
    inj := by
      intro l i l' i' c hl hl'
      by_cases e : l = κ <;> by_cases e' : l' = κ
      · subst e; subst e'
        simp only [if_true] at hl hl'
        split at hl <;> split at hl' <;> simp_all
      · subst e
        simp only [if_true, if_neg e'] at hl hl'
        split at hl
        · obtain rfl := Option.some.inj hl; exact absurd hl' (hu _ _)
        · cases hl
      · subst e'
        simp only [if_true, if_neg e] at hl hl'
        split at hl'
        · obtain rfl := Option.some.inj hl'; exact absurd hl (hu _ _)
        · cases hl'
      · simp only [if_neg e, if_neg e'] at hl hl'
        exact h.inj _ _ _ _ _ hl hl'
    lt := by
      intro l i c hc'
      by_cases e : l = κ
      · simp only [if_pos e] at hc'
        split at hc'
        · obtain rfl := Option.some.inj hc'; exact (Array.getElem?_eq_some_iff.1 hb).1
        · cases hc'
      · simp only [if_neg e] at hc'; exact h.lt _ _ _ hc'
    mine := by
      intro l i c hc'
      by_cases e : l = κ
      · simp only [if_pos e] at hc'
        split at hc'
        · obtain rfl := Option.some.inj hc'; exact .inr (.inl h0)
        · cases hc'
      · simp only [if_neg e] at hc'; exact h.mine _ _ _ hc'
    mlt := h.mlt
    mold := h.mold
    mnew := h.mnew
    fr := h.fr
    pin := fun κ' b' hk' hp => by
      have e : κ' ≠ κ := fun e => by rw [e, hpn] at hp; cases hp
      simp only [if_neg e]; exact h.pin κ' b' hk' hp }
def isVal (l : Loc) (i : Nat) : Bool := match l with
  | .s _ => i == 0
  | _ => i != 0
def setO (Ow : Loc → Nat → Option Nat) (l : Loc) (i : Nat) (o : Option Nat) : Loc → Nat → Option Nat := fun l' i' => if l' = l ∧ i' = i then o else Ow l' i'
theorem setO_self (l : Loc) (i : Nat) (o : Option Nat) : setO Ow l i o l i = o := by simp [setO]
theorem setO_ne {l l' : Loc} {i i' : Nat} (o : Option Nat) (h : ¬ (l' = l ∧ i' = i)) : setO Ow l i o l' i' = Ow l' i' := by simp only [setO, if_neg h]
theorem setO_blk {l κ : Loc} {i : Nat} (o : Option Nat) (hv : isVal l i = true) (hk : κ.isBlk = true) : setO Ow l i o κ 0 = Ow κ 0 := by
  refine setO_ne o ?_
  rintro ⟨rfl, rfl⟩
  cases κ <;> simp [isVal, Loc.isBlk] at hv hk
theorem key_ow {l : Loc} {i : Nat} (hi : isVal l i = true) {o : Option Nat} {x : AV} {v : Value} {q : Option Nat} (hv : SRel P w M Ow x v q) :
    SRel P w M (setO Ow l i o) x v q := by
  refine hv.mono (fun b o h => ⟨h, rfl⟩) ?_ (fun b hb => ⟨hb, fun cs ty h => h, fun k h => h⟩)
  intro κ b hk _ e
  rw [setO_blk o hi hk]; exact e
theorem Rel.setOw (h : Rel P Γ M Ow n m a w) {l : Loc} {i : Nat} (hi : isVal l i = true) (o : Option Nat) (ho : ∀ b, o = some b → (∀ l' i', Ow l' i' = some b → l' = l ∧ i' = i) ∧ b < w.heap.size ∧ (Γ.own0 b ∨ Γ.w0.heap.size ≤ b))
    (hs : ∀ t v, l = .s t → lk m (.s t) = some v → SRel P w M Ow v (a.tmps.getD t undef) o)
    (hb : ∀ ty cells j b cs y v, l.isBlk = true → lk m l = some (.blk ty cells) → i = j + 1 → cells[j]? = some y → Ow l 0 = some b → w.heap[b]? = some (.cells cs ty (0, 0)) → cs[j]? = some v → SRel P w M Ow y v o) :
    Rel P Γ M (setO Ow l i o) n m a w where
  size := h.size
  defers := h.defers
  slot := by
    intro t v hv
    by_cases e : Loc.s t = l ∧ 0 = i
    · obtain ⟨rfl, rfl⟩ := e; rw [setO_self]; exact key_ow hi (hs t v rfl hv)
    · rw [setO_ne o e]; exact key_ow hi (h.slot t v hv)
  blk := by
    intro κ v hk hv
    obtain ⟨ty, cells, b, cs, rfl, ho', hh, hs', hn, h1, hc⟩ := h.blk κ v hk hv
    refine ⟨ty, cells, b, cs, rfl, by rw [setO_blk o hi hk]; exact ho', hh, hs', hn, h1, ?_⟩
    intro j y u hy hu
    by_cases e : κ = l ∧ j + 1 = i
    · obtain ⟨rfl, rfl⟩ := e
      rw [setO_self]; exact key_ow hi (hb ty cells j b cs y u hk hv rfl hy ho' hh hu)
    · rw [setO_ne o e]; exact key_ow hi (hc j y u hy hu)
  inj := by
    intro l1 i1 l2 i2 c h1 h2
    by_cases e1 : l1 = l ∧ i1 = i <;> by_cases e2 : l2 = l ∧ i2 = i
    · exact ⟨e1.1.trans e2.1.symm, e1.2.trans e2.2.symm⟩
    · obtain ⟨rfl, rfl⟩ := e1
      rw [setO_self] at h1; rw [setO_ne o e2] at h2
      exact absurd ((ho c h1).1 _ _ h2) e2
    · obtain ⟨rfl, rfl⟩ := e2
      rw [setO_self] at h2; rw [setO_ne o e1] at h1
      exact absurd ((ho c h2).1 _ _ h1) e1
    · rw [setO_ne o e1] at h1; rw [setO_ne o e2] at h2
      exact h.inj _ _ _ _ _ h1 h2
  lt := by
    intro l1 i1 c h1
    by_cases e1 : l1 = l ∧ i1 = i
    · obtain ⟨rfl, rfl⟩ := e1; rw [setO_self] at h1; exact (ho c h1).2.1
    · rw [setO_ne o e1] at h1; exact h.lt _ _ _ h1
  mine := by
    intro l1 i1 c h1
    by_cases e1 : l1 = l ∧ i1 = i
    · obtain ⟨rfl, rfl⟩ := e1; rw [setO_self] at h1
      rcases (ho c h1).2.2 with h | h
      · exact .inl h
      · exact .inr (.inl h)
    · rw [setO_ne o e1] at h1; exact h.mine _ _ _ h1
  mlt := h.mlt
  mold := h.mold
  mnew := h.mnew
  fr := h.fr
  pin := fun κ b hk hp => by rw [setO_blk o hi hk]; exact h.pin κ b hk hp
theorem Rel.mineL (h : Rel P Γ M Ow n m a w) {l : Loc} (hl : ∀ j, l ≠ .e j) {i b : Nat} (hb : Ow l i = some b) : Γ.own0 b ∨ Γ.w0.heap.size ≤ b := by
  rcases h.mine l i b hb with h | h | ⟨j, e, _⟩
  · exact .inl h
  · exact .inr h
  · exact absurd e (hl j)
theorem Rel.label (h : Rel P Γ M Ow n m a w) {t : Nat} {v' : AV} (hv : SRel P w M Ow v' (a.tmps.getD t undef) (Ow (.s t) 0)) : Rel P Γ M Ow n ((.s t, v') :: m) a w :=
  { h with
    slot := fun t' v hv' => by
      rw [lk_cons] at hv'
      split at hv'
      · rename_i e
        obtain rfl := Option.some.inj hv'
        obtain rfl : t = t' := by injection e
        exact hv
      · exact h.slot t' v hv'
    blk := fun κ v hk hv' => h.blk κ v hk (by
      have e : Loc.s t ≠ κ := fun e => by rw [← e] at hk; cases hk
      rw [lk_ne _ _ e] at hv'; exact hv') }
theorem Rel.labelblk (h : Rel P Γ M Ow n m a w) {κ : Loc} (hk : κ.isBlk = true) {v' : AV} (hv : BRel P w M Ow κ v') : Rel P Γ M Ow n ((κ, v') :: m) a w :=
  { h with
    slot := fun t v hv' => h.slot t v (by
      have e : κ ≠ Loc.s t := fun e => by rw [e] at hk; cases hk
      rw [lk_ne _ _ e] at hv'; exact hv')
    blk := fun κ' v hk' hv' => by
      rw [lk_cons] at hv'
      split at hv'
      · rename_i e; subst e
        obtain rfl := Option.some.inj hv'
        exact hv
      · exact h.blk κ' v hk' hv' }
theorem Rel.putown (h : Rel P Γ M Ow n m a w) {d : Nat} (hd : d < n) {ty : TypeId} {xs : List T} {cv : Value} {o : Option Nat} (hv : OwnRel P w M ty xs cv o)
    (ho : ∀ b, o = some b → (∀ l i, Ow l i ≠ some b) ∧ b < w.heap.size ∧ (Γ.own0 b ∨ Γ.w0.heap.size ≤ b)) :
    Rel P Γ M (setO Ow (.s d) 0 o) n ((.s d, .own ty xs) :: m) (a.put (some d) cv) w := by
  have h1 : Rel P Γ M Ow n ((.s d, .unk) :: m) (a.put (some d) cv) w := h.put_any hd
  have h2 := h1.setOw (l := .s d) (i := 0) rfl o (fun b hb => ⟨fun l i e => absurd e ((ho b hb).1 l i), (ho b hb).2⟩) (fun t v e hv => by
    obtain rfl : d = t := by injection e
    rw [lk_self] at hv; obtain rfl := Option.some.inj hv; exact VRel.unk _) (fun _ _ _ _ _ _ _ e => by cases e)
  have h3 := h2.label (t := d) (v' := .own ty xs) (by rw [setO_self, tmps_put_self h.size hd]; exact hv)
  refine h3.sub fun l v hl => ?_
  rw [lk_cons] at hl ⊢
  split
  · rename_i e; rw [if_pos e] at hl; exact hl
  · rename_i e; rw [if_neg e] at hl; rw [lk_ne _ _ e]; exact hl
theorem Rel.putv (h : Rel P Γ M Ow n m a w) {d : Nat} (hd : d < n) {x : AV} {cv : Value} {o : Option Nat} (hv : SRel P w M Ow x cv o) (hx : ∀ κ, ¬ Refs κ x)
    (ho : ∀ b, o = some b → (∀ l i, Ow l i ≠ some b) ∧ b < w.heap.size ∧ (Γ.own0 b ∨ Γ.w0.heap.size ≤ b)) :
    Rel P Γ M (setO Ow (.s d) 0 o) n ((.s d, x) :: m) (a.put (some d) cv) w := by
  have h1 : Rel P Γ M Ow n ((.s d, .unk) :: m) (a.put (some d) cv) w := h.put_any hd
  have h2 := h1.setOw (l := .s d) (i := 0) rfl o (fun b hb => ⟨fun l i e => absurd e ((ho b hb).1 l i), (ho b hb).2⟩) (fun t v e hv => by
    obtain rfl : d = t := by injection e
    rw [lk_self] at hv; obtain rfl := Option.some.inj hv; exact VRel.unk _) (fun _ _ _ _ _ _ _ e => by cases e)
  have h3 := h2.label (t := d) (v' := x) (by rw [setO_self, tmps_put_self h.size hd]; exact hv.mono (fun b o h => ⟨h, rfl⟩) (fun κ b _ hr _ => absurd hr (hx κ)) (fun b hb => ⟨hb, fun cs ty h => h, fun k h => h⟩))
  refine h3.sub fun l v hl => ?_
  rw [lk_cons] at hl ⊢
  split
  · rename_i e; rw [if_pos e] at hl; exact hl
  · rename_i e; rw [if_neg e] at hl; rw [lk_ne _ _ e]; exact hl
theorem Rel.take (h : Rel P Γ M Ow n m a w) {s d : Nat} (hd : d < n) {x : AV} (hx : x.isOwn = true) (hs : lk m (.s s) = some x) :
    ∃ Ow', Rel P Γ M Ow' n ((.s d, x) :: (.s s, x.deg) :: m) (a.put (some d) (a.tmps.getD s undef)) w := by
  have hv : SRel P w M Ow x (a.tmps.getD s undef) (Ow (.s s) 0) := h.slot s _ hs
  have hdg : SRel P w M Ow x.deg (a.tmps.getD s undef) none := srel_of (deg_vrel (h.slot s _ hs)) _
  have h1 := h.label (t := s) (v' := x.deg) (srel_of (deg_vrel (h.slot s _ hs)) _)
  have h2 := h1.setOw (l := .s s) (i := 0) rfl none (fun b hb => by cases hb) (fun t v e hv => by
    obtain rfl : s = t := by injection e
    rw [lk_self] at hv; obtain rfl := Option.some.inj hv; exact hdg) (fun _ _ _ _ _ _ _ e => by cases e)
  refine ⟨_, h2.putv hd (o := Ow (.s s) 0) (own_any hx hv) (own_refs hx) ?_⟩
  intro b hb
  refine ⟨fun l i e => ?_, h.lt _ _ _ hb, h.mineL (fun j e => by cases e) hb⟩
  by_cases e' : l = .s s ∧ i = 0
  · obtain ⟨rfl, rfl⟩ := e'; rw [setO_self] at e; cases e
  · rw [setO_ne _ e'] at e; exact e' (h.inj _ _ _ _ _ e hb)
theorem Rel.setblk (h : Rel P Γ M Ow n m a w) {κ : Loc} (hL : κ.isL = true) {ty : TypeId} {cells cells' : List AV} {b : Nat} {cs cs' : Array Value} {w' : World} (hl : lk m κ = some (.blk ty cells)) (ho : Ow κ 0 = some b)
    (hh : w.heap[b]? = some (.cells cs ty (0, 0))) (hh' : w'.heap[b]? = some (.cells cs' ty (0, 0))) (hsz : cs'.size = cs.size) (hlen : cells'.length = cells.length)
    (hos : w'.os = w.os) (htp : w'.tape = w.tape) (hout : w'.output = w.output) (hhs : w'.heap.size = w.heap.size) (hne : ∀ c, c ≠ b → w'.heap[c]? = w.heap[c]?)
    (h1' : ∀ (i : Nat) (v : Value), cs'[i]? = some v → v.oneCell' = true)
    (hc' : ∀ (i : Nat) (y : AV) (v : Value), cells'[i]? = some y → cs'[i]? = some v → SRel P w M Ow y v (Ow κ (i + 1)) ) :
    Rel P Γ M Ow n ((κ, .blk ty cells') :: m) a w' := by
  have hk := Loc.isL_blk hL
  obtain ⟨ty0, cells0, b0, cs0, e0, ho0, hh0, hs0, hn0, h10, hc0⟩ := h.blk κ _ hk hl
  obtain ⟨rfl, rfl⟩ : ty = ty0 ∧ cells = cells0 := by injection e0; exact ⟨‹_›, ‹_›⟩
  obtain rfl : b = b0 := by rw [ho] at ho0; exact Option.some.inj ho0
  obtain rfl : cs = cs0 := by
    rw [hh] at hh0
    injection hh0 with hh0
    injection hh0
  have hm : ∀ b' o, M b' o → M b' o ∧ w'.cell? ⟨b', o, none⟩ = w.cell? ⟨b', o, none⟩ := by
    intro b' o hb'
    refine ⟨hb', ?_⟩
    have : b' ≠ b := fun e => hn0 o (e ▸ hb')
    simp only [World.cell?, hne b' this]
  have hshape : ∀ (c : Nat) (cs : Array Value) (ty : TypeId) (z : Nat × Nat), w.heap[c]? = some (Obj.cells cs ty z) → ∃ cs' : Array Value, w'.heap[c]? = some (Obj.cells cs' ty z) ∧ cs'.size = cs.size := by
    intro c cs1 ty1 z hc
    by_cases e : c = b
    · subst e
      rw [hh] at hc
      injection hc with hc
      injection hc with e1 e2 e3
      subst e1; subst e2; subst e3
      exact ⟨cs', hh', hsz⟩
    · exact ⟨cs1, (hne c e).trans hc, rfl⟩
  have mono : ∀ {x : AV} {v : Value} {l : Loc} {i : Nat}, ¬ (l = κ ∧ i = 0) → SRel P w M Ow x v (Ow l i) → SRel P w' M Ow x v (Ow l i) := fun hli hv =>
    hv.mono hm (fun _ _ _ _ e => e) (fun c hc => ⟨hc, fun cs ty hx => (hne c (fun e => hli (h.inj _ _ _ _ _ (e ▸ hc) ho))).trans hx, fun k hk => hk⟩)
  exact {
    size := h.size
    defers := h.defers.imp fun Ds hd => ⟨hd.1, hd.2.1, fun D hm => ⟨(hd.2.2 D hm).1, (hne D (fun e => by have := (hd.2.2 D hm).2; rw [e, hh] at this; cases this)).trans (hd.2.2 D hm).2⟩⟩
    slot := fun t v hv => mono (fun e => by rw [← e.1] at hk; cases hk) (h.slot t v (by
      have e : κ ≠ Loc.s t := fun e => by rw [e] at hk; cases hk
      rw [lk_ne _ _ e] at hv; exact hv))
    blk := by
      intro κ' v hk' hv
      rw [lk_cons] at hv
      split at hv
      · rename_i e; subst e
        obtain rfl := Option.some.inj hv
        exact ⟨ty, cells', b, cs', rfl, ho, hh', by rw [hsz, hs0, hlen], hn0, h1', fun i y v hy hv => mono (fun e => Nat.succ_ne_zero i e.2) (hc' i y v hy hv)⟩
      · rename_i e
        obtain ⟨ty2, cells2, b2, cs2, rfl, ho2, hh2, hs2, hn2, h12, hc2⟩ := h.blk κ' v hk' hv
        have hb2 : b2 ≠ b := fun e2 => e ((h.inj _ _ _ _ _ ho (e2 ▸ ho2)).1)
        exact ⟨ty2, cells2, b2, cs2, rfl, ho2, (hne b2 hb2).trans hh2, hs2, hn2, h12, fun i y v hy hv => mono (fun e => Nat.succ_ne_zero i e.2) (hc2 i y v hy hv)⟩
    inj := h.inj
    lt := fun l i c hc => by rw [hhs]; exact h.lt l i c hc
    mine := h.mine
    mlt := fun c o hc => by rw [hhs]; exact h.mlt c o hc
    mold := h.mold
    mnew := h.mnew
    pin := h.pin
    fr := {
      os := hos.trans h.fr.os
      tape := htp.trans h.fr.tape
      output := hout.trans h.fr.output
      size := by rw [hhs]; exact h.fr.size
      block := by
        intro c hc hno
        have : c ≠ b := fun e => by
          rcases h.mineL (fun j e => by first | (rw [e] at hL; cases hL; done) | cases e) ho with h' | h'
          · exact hno (e ▸ h')
          · omega
        exact (hne c this).trans (h.fr.block c hc hno)
      shape := by
        intro c cs1 ty1 z hz
        obtain ⟨cs2, e1, e2⟩ := h.fr.shape c cs1 ty1 z hz
        obtain ⟨cs3, e3, e4⟩ := hshape c cs2 ty1 z e1
        exact ⟨cs3, e3, e4.trans e2⟩
      keep := fun c o hc => (hm c o (h.mold c o hc)).2.trans (h.fr.keep c o hc) } }
theorem Rel.growown (h : Rel P Γ M Ow n m a w) {s : Nat} {b : Nat} {ty : TypeId} {cs cs' : Array Value} {w' : World} {lo hi : Nat} (ho : Ow (.s s) 0 = some b)
    (hs : lk m (.s s) = some .unk) (hM : ∀ k, M b k → k < lo)
    (hh : w.heap[b]? = some (.cells cs ty (0, 0))) (hh' : w'.heap[b]? = some (.cells cs' ty (0, 0))) (hsz : cs'.size = cs.size)
    (hkeep : ∀ k, k < lo → cs'[k]? = cs[k]?)
    (hos : w'.os = w.os) (htp : w'.tape = w.tape) (hout : w'.output = w.output) (hhs : w'.heap.size = w.heap.size) (hne : ∀ c, c ≠ b → w'.heap[c]? = w.heap[c]?) :
    Rel P Γ (fun c k => M c k ∨ (c = b ∧ lo ≤ k ∧ k < hi)) Ow n m a w' := by
  have hm : ∀ c k, M c k → (M c k ∨ (c = b ∧ lo ≤ k ∧ k < hi)) ∧ w'.cell? ⟨c, k, none⟩ = w.cell? ⟨c, k, none⟩ := by
    intro c k hc
    refine ⟨.inl hc, ?_⟩
    by_cases e : c = b
    · subst e
      simp only [World.cell?, hh, hh', Option.isSome_none]
      exact hkeep k (hM k hc)
    · simp only [World.cell?, hne c e]
  have hshape : ∀ (c : Nat) (cs : Array Value) (ty : TypeId) (z : Nat × Nat), w.heap[c]? = some (Obj.cells cs ty z) → ∃ cs' : Array Value, w'.heap[c]? = some (Obj.cells cs' ty z) ∧ cs'.size = cs.size := by
    intro c cs1 ty1 z hc
    by_cases e : c = b
    · subst e
      rw [hh] at hc
      injection hc with hc
      injection hc with e1 e2 e3
      subst e1; subst e2; subst e3
      exact ⟨cs', hh', hsz⟩
    · exact ⟨cs1, (hne c e).trans hc, rfl⟩
  have mono : ∀ {x : AV} {v : Value} {l : Loc} {i : Nat}, ¬ (l = .s s ∧ i = 0) → SRel P w M Ow x v (Ow l i) → SRel P w' (fun c k => M c k ∨ (c = b ∧ lo ≤ k ∧ k < hi)) Ow x v (Ow l i) := fun hli hv =>
    hv.mono hm (fun _ _ _ _ e => e) (fun c hc => ⟨hc, fun cs ty hx => (hne c (fun e => hli (h.inj _ _ _ _ _ (e ▸ hc) ho))).trans hx, fun k hk => by
      rcases hk with hk | ⟨e, _⟩
      · exact hk
      · exact absurd (h.inj _ _ _ _ _ (e ▸ hc) ho) hli⟩)
  exact {
    size := h.size
    defers := h.defers.imp fun Ds hd => ⟨hd.1, hd.2.1, fun D hm => ⟨(hd.2.2 D hm).1, (hne D (fun e => by have := (hd.2.2 D hm).2; rw [e, hh] at this; cases this)).trans (hd.2.2 D hm).2⟩⟩
    slot := by
      intro t v hv
      by_cases e : t = s
      · subst e
        rw [hs] at hv; obtain rfl := Option.some.inj hv
        exact VRel.unk _
      · exact mono (fun e' => e (by injection e'.1)) (h.slot t v hv)
    blk := by
      intro κ v hk hv
      obtain ⟨ty2, cells2, b2, cs2, rfl, ho2, hh2, hs2, hn2, h12, hc2⟩ := h.blk κ v hk hv
      have hb2 : b2 ≠ b := fun e2 => by
        have := (h.inj _ _ _ _ _ ho (e2 ▸ ho2)).1
        rw [← this] at hk; cases hk
      refine ⟨ty2, cells2, b2, cs2, rfl, ho2, (hne b2 hb2).trans hh2, hs2, ?_, h12, fun i y v hy hv => mono ?_ (hc2 i y v hy hv)⟩
      · rintro o (h' | ⟨e, _⟩)
        · exact hn2 o h'
        · exact hb2 e
      · rintro ⟨e, e'⟩
        omega
    inj := h.inj
    lt := fun l i c hc => by rw [hhs]; exact h.lt l i c hc
    mine := h.mine
    mlt := fun c o hc => by
      rw [hhs]
      rcases hc with hc | ⟨rfl, _⟩
      · exact h.mlt c o hc
      · exact h.lt _ _ _ ho
    mold := fun c o hc => .inl (h.mold c o hc)
    mnew := fun c o hc => by
      rcases hc with hc | ⟨rfl, _⟩
      · exact h.mnew c o hc
      · exact .inr (h.mineL (fun j e => by cases e) ho)
    pin := h.pin
    fr := {
      os := hos.trans h.fr.os
      tape := htp.trans h.fr.tape
      output := hout.trans h.fr.output
      size := by rw [hhs]; exact h.fr.size
      block := by
        intro c hc hno
        have : c ≠ b := fun e => by
          rcases h.mineL (fun j e => by first | (rw [e] at hL; cases hL; done) | cases e) ho with h' | h'
          · exact hno (e ▸ h')
          · omega
        exact (hne c this).trans (h.fr.block c hc hno)
      shape := by
        intro c cs1 ty1 z hz
        obtain ⟨cs2, e1, e2⟩ := h.fr.shape c cs1 ty1 z hz
        obtain ⟨cs3, e3, e4⟩ := hshape c cs2 ty1 z e1
        exact ⟨cs3, e3, e4.trans e2⟩
      keep := fun c o hc => (hm c o (h.mold c o hc)).2.trans (h.fr.keep c o hc) } }
theorem Rel.drop (h : Rel P Γ M Ow n m a w) {D : Nat} {Ds : List Nat} (hn : (D :: Ds).Nodup) (hD : ∀ d, d ∈ D :: Ds → Γ.w0.heap.size ≤ d ∧ w.heap[d]? = some (.deferred (some []))) :
    Rel P Γ M Ow n m { a with defers := Ds.map markD ++ Γ.ds } (w.putObj D (.deferred none)) := by
  obtain ⟨hd1, hd2⟩ := hD D (List.mem_cons_self ..)
  have hne : ∀ c, c ≠ D → (w.putObj D (.deferred none)).heap[c]? = w.heap[c]? := fun c hc => World.putObj_heap_other hc
  have hself : (w.putObj D (.deferred none)).heap[D]? = some (.deferred none) := World.putObj_heap_same (Array.getElem?_eq_some_iff.1 hd2).1
  have hcell : ∀ c k, (w.putObj D (.deferred none)).cell? ⟨c, k, none⟩ = w.cell? ⟨c, k, none⟩ := by
    intro c k
    by_cases e : c = D
    · subst e; simp only [World.cell?, hself, hd2]
    · simp only [World.cell?, hne c e]
  have hm : ∀ c k, M c k → M c k ∧ (w.putObj D (.deferred none)).cell? ⟨c, k, none⟩ = w.cell? ⟨c, k, none⟩ := fun c k hc => ⟨hc, hcell c k⟩
  have hblk : ∀ (c : Nat) (cs : Array Value) (ty : TypeId) (z : Nat × Nat), w.heap[c]? = some (Obj.cells cs ty z) → (w.putObj D (.deferred none)).heap[c]? = some (Obj.cells cs ty z) := by
    intro c cs ty z hc
    have : c ≠ D := fun e => by rw [e, hd2] at hc; cases hc
    exact (hne c this).trans hc
  have mono : ∀ {x : AV} {v : Value} {o : Option Nat}, SRel P w M Ow x v o → SRel P (w.putObj D (.deferred none)) M Ow x v o := fun hv =>
    hv.mono hm (fun _ _ _ _ e => e) (fun c hc => ⟨hc, fun cs ty hx => hblk c cs ty _ hx, fun k hk => hk⟩)
  have hsz : (w.putObj D (.deferred none)).heap.size = w.heap.size := World.putObj_size
  exact {
    size := h.size
    defers := ⟨Ds, rfl, (List.nodup_cons.1 hn).2, fun d hd => ⟨(hD d (List.mem_cons_of_mem _ hd)).1, (hne d (fun e => (List.nodup_cons.1 hn).1 (e ▸ hd))).trans (hD d (List.mem_cons_of_mem _ hd)).2⟩⟩
    slot := fun t v hv => mono (h.slot t v hv)
    blk := by
      intro κ v hk hv
      obtain ⟨ty2, cells2, b2, cs2, rfl, ho2, hh2, hs2, hn2, h12, hc2⟩ := h.blk κ v hk hv
      exact ⟨ty2, cells2, b2, cs2, rfl, ho2, hblk _ _ _ _ hh2, hs2, hn2, h12, fun i y v hy hv => mono (hc2 i y v hy hv)⟩
    inj := h.inj
    lt := fun l i c hc => by rw [hsz]; exact h.lt l i c hc
    mine := h.mine
    mlt := fun c o hc => by rw [hsz]; exact h.mlt c o hc
    mold := h.mold
    mnew := h.mnew
    pin := h.pin
    fr := {
      os := h.fr.os
      tape := h.fr.tape
      output := h.fr.output
      size := by rw [hsz]; exact h.fr.size
      block := fun c hc hno => (hne c (by omega)).trans (h.fr.block c hc hno)
      shape := by
        intro c cs1 ty1 z hz
        obtain ⟨cs2, e1, e2⟩ := h.fr.shape c cs1 ty1 z hz
        exact ⟨cs2, hblk _ _ _ _ e1, e2⟩
      keep := fun c o hc => (hcell c o).trans (h.fr.keep c o hc) } }
end
end Go.Lg

set_option linter.unusedVariables false
namespace Go.Lg
open Go Go.RowKit
inductive TK where
  | basic
  | bool
  | str
  | int (k : IntKind)
  | slice (e : TypeId)
  | struct (fs : List (Nat × Nat))
  | array (n : Nat) (e : TypeId)
structure TD where
  size : Nat
  bytes : Nat
  kind : TK
  zero : List AV
abbrev Tab := List (Nat × TD)
def tlk : Tab → Nat → Option TD
  | [], _ => none
  | (k, d) :: r, t => match Nat.beq k t with
    | true => some d
    | false => tlk r t
def zOk : AV → Value → Bool
  | .tr (.sc (.int k 0)), .int k' n => k == k' && n == 0
  | .tr (.sc (.bool false)), .bool b => !b
  | .tr (.sc (.string s)), .string s' => s.size == 0 && s'.size == 0
  | .tr (.sc (.pointer none)), .pointer none => true
  | .tr (.sc (.complex k 0 0)), .complex k' a b => (match k, k' with | .f64, .f64 => true | _, _ => false) && a == 0 && b == 0
  | .tr (.sc (.map none)), .map none => true
  | .tr (.sc .nilFunc), .nilFunc => true
  | .tr (.sc .nilIface), .nilIface => true
  | .own _ [], .slice none 0 0 => true
  | _, _ => false
def zsOk : List AV → List Value → Bool
  | [], [] => true
  | z :: zs, v :: vs => zOk z v && zsOk zs vs
  | _, _ => false
def ownTys (P : Program) : List AV → Bool
  | [] => true
  | .own ty _ :: r => (P.info? ty).isSome && ownTys P r
  | _ :: r => ownTys P r
def kOk (P : Program) (t : Nat) (d : TD) : Bool := match P.underlying t, d.kind with
  | some (.struct fs), .struct fl => fl == fs.toList.map (fun f => (f.offset, P.cellsOf f.type)) && fs.toList.all (fun f => (P.info? f.type).isSome)
  | some (.slice e), .slice e' => e == e'
  | some (.array n e), .array n' e' => n == n' && e == e'
  | some .bool, .bool => true
  | some .string, .str => true
  | some (.int k), .int k' => decide (k = k')
  | some (.struct _), _ => false
  | some (.array _ _), _ => false
  | some _, .basic => true
  | _, _ => false
def tdOk (P : Program) (t : Nat) (d : TD) : Bool := match P.info? t with
  | none => false
  | some i => i.size == d.size && i.bytes == d.bytes && kOk P t d && ownTys P d.zero && (match i.zero with | some z => zsOk d.zero z.cells.toList | none => false)
def TabOk (P : Program) (tab : Tab) : Prop := ∀ t d, tlk tab t = some d → tdOk P t d = true
theorem tabOk_of {P : Program} : ∀ {tab : Tab}, (∀ p, p ∈ tab → tdOk P p.1 p.2 = true) → TabOk P tab
  | [], _, _, _, h => by cases h
  | (k, d) :: r, hall, t, d', h => by
    unfold tlk at h
    cases e : Nat.beq k t with
    | true =>
      rw [e] at h
      obtain rfl := Option.some.inj h
      obtain rfl := Nat.eq_of_beq_eq_true e
      exact hall (k, d) (List.mem_cons_self ..)
    | false => rw [e] at h; exact tabOk_of (tab := r) (fun p hp => hall p (List.mem_cons_of_mem _ hp)) t d' h
theorem TabOk.info {P : Program} {tab : Tab} (h : TabOk P tab) {t : Nat} {d : TD} (ht : tlk tab t = some d) :
    ∃ i, P.info? t = some i ∧ i.size = d.size ∧ i.bytes = d.bytes ∧ kOk P t d = true ∧ ownTys P d.zero = true ∧ ∃ z, i.zero = some z ∧ zsOk d.zero z.cells.toList = true := by
  have := h t d ht
  unfold tdOk at this
  split at this
  · cases this
  · rename_i i hi
    simp only [Bool.and_eq_true, beq_iff_eq] at this
    obtain ⟨⟨⟨⟨h1, h2⟩, h3⟩, h4⟩, h5⟩ := this
    refine ⟨i, hi, h1, h2, h3, h4, ?_⟩
    split at h5
    · rename_i z hz; exact ⟨z, hz, h5⟩
    · cases h5
theorem TabOk.struct {P : Program} {tab : Tab} (h : TabOk P tab) {t : Nat} {d : TD} (ht : tlk tab t = some d) {fl : List (Nat × Nat)} (hk : d.kind = .struct fl) :
    ∃ fs, P.underlying t = some (.struct fs) ∧ fl = fs.toList.map (fun f => (f.offset, P.cellsOf f.type)) ∧ fs.toList.all (fun f => (P.info? f.type).isSome) = true := by
  obtain ⟨i, _, _, _, h3, _⟩ := h.info ht
  unfold kOk at h3
  split at h3 <;> simp_all
theorem TabOk.slice {P : Program} {tab : Tab} (h : TabOk P tab) {t : Nat} {d : TD} (ht : tlk tab t = some d) {e : TypeId} (hk : d.kind = .slice e) : P.underlying t = some (.slice e) := by
  obtain ⟨i, _, _, _, h3, _⟩ := h.info ht
  unfold kOk at h3
  split at h3 <;> simp_all
theorem TabOk.array {P : Program} {tab : Tab} (h : TabOk P tab) {t : Nat} {d : TD} (ht : tlk tab t = some d) {n : Nat} {e : TypeId} (hk : d.kind = .array n e) : P.underlying t = some (.array n e) := by
  obtain ⟨i, _, _, _, h3, _⟩ := h.info ht
  unfold kOk at h3
  split at h3 <;> simp_all
theorem TabOk.bool {P : Program} {tab : Tab} (h : TabOk P tab) {t : Nat} {d : TD} (ht : tlk tab t = some d) (hk : d.kind = .bool) : P.underlying t = some .bool := by
  obtain ⟨i, _, _, _, h3, _⟩ := h.info ht
  unfold kOk at h3
  split at h3 <;> simp_all
theorem TabOk.str {P : Program} {tab : Tab} (h : TabOk P tab) {t : Nat} {d : TD} (ht : tlk tab t = some d) (hk : d.kind = .str) : P.underlying t = some .string := by
  obtain ⟨i, _, _, _, h3, _⟩ := h.info ht
  unfold kOk at h3
  split at h3 <;> simp_all
theorem TabOk.int {P : Program} {tab : Tab} (h : TabOk P tab) {t : Nat} {d : TD} (ht : tlk tab t = some d) {k : IntKind} (hk : d.kind = .int k) : P.underlying t = some (.int k) := by
  obtain ⟨i, _, _, _, h3, _⟩ := h.info ht
  unfold kOk at h3
  split at h3 <;> simp_all
def TK.agg : TK → Bool
  | .struct _ | .array _ _ => true
  | _ => false
def dsAgg : TypeDesc → Bool
  | .struct _ | .array _ _ => true
  | _ => false
theorem run_isAgg {P : Program} {t : TypeId} {ds : TypeDesc} (hd : P.underlying t = some ds) (w : World) : (Go.isAgg t).run P w = .ok (dsAgg ds) w := by
  simp only [Go.isAgg]
  simp [run_underlying hd]
  cases ds <;> rfl
theorem TabOk.isAgg {P : Program} {tab : Tab} (h : TabOk P tab) {t : Nat} {d : TD} (ht : tlk tab t = some d) (w : World) : (Go.isAgg t).run P w = .ok d.kind.agg w := by
  obtain ⟨i, _, _, _, h3, _⟩ := h.info ht
  unfold kOk at h3
  cases hu : P.underlying t with
  | none => rw [hu] at h3; simp at h3
  | some ds =>
    rw [run_isAgg hu]
    rw [hu] at h3
    cases hk : d.kind <;> rw [hk] at h3 <;> cases ds <;> first | rfl | (simp at h3; done)
def sat : List (Loc × AV) → Store → Prop
  | [], _ => True
  | (l, v) :: r, m => lk m l = some v ∧ sat r m
theorem sat_app : ∀ {r s : List (Loc × AV)} {m : Store}, sat (r ++ s) m ↔ sat r m ∧ sat s m
  | [], s, m => by simp [sat]
  | (l, v) :: r, s, m => by simp only [List.cons_append, sat, sat_app (r := r), and_assoc]
def FW (ro : Option Nat) : Fence := { Fence.wide with round := ro }
theorem FW.calls {P : Program} {ro : Option Nat} {k : Nat} {f : FuncId} {args : Array Value} {w : World} {R : Ending → World → Prop} (h : Calls P f args w R) : CallsIn (FW ro) k P f args w R := by
  cases ro with
  | none => exact callsIn_wide.2 h
  | some l => exact CallsIn.inRound l (callsIn_wide.2 h)
theorem not_defer {P : Program} {o : Oper} {ρ : Operand → Value} {w w' : World} {r : Next} (hr : (execOp ρ o).run P w = .ok r w') (hd : ∀ d, r ≠ .defer d) : ∀ c, o.op ≠ .defer c := by
  intro c e
  unfold execOp at hr
  rw [e] at hr
  simp only [Sem.run_bind] at hr
  cases hx : (resolve ρ c o.type).run P w with
  | ok d w2 => rw [hx] at hr; simp at hr; exact hd _ hr.1.symm
  | halt h w2 => rw [hx] at hr; simp at hr
theorem semAt_of {P : Program} {o : Oper} {ρ : Operand → Value} {w w' : World} {r : Next} (ro : Option Nat) (hr : (execOp ρ o).run P w = .ok r w') (hd : ∀ d, r ≠ .defer d) : (o.semAt ro ρ).run P w = .ok r w' := by
  rw [Oper.semAt_eq ro ρ o (not_defer hr hd)]; exact hr
def OAct (P : Program) (n : Nat) (o : Oper) (fr : List Loc) (m m' : Store) : Prop :=
  ∀ (Γ : Ctx) (a : Act) (w : World), (∀ κ, κ ∈ fr → Γ.pin κ = none) → RelX P Γ n m a w → o.wpIn (FW Γ.rd) 0 P a w (fun a' w' => RelX P Γ n m' a' w') (fun _ _ _ => False)
def OStep (P : Program) (n : Nat) (ops : Array Oper) (o : Oper) (fr : List Loc) (m m' : Store) : Prop :=
  ∀ (Γ : Ctx) (a : Act) (w : World), (∀ κ, κ ∈ fr → Γ.pin κ = none) → RelX P Γ n m a w →
    if Region.wanted o (yielded ops a.tmps) = true then o.wpIn (FW Γ.rd) 0 P a w (fun a' w' => RelX P Γ n m' a' w') (fun _ _ _ => False) else RelX P Γ n m' (a.put o.dst undef) w
theorem OAct.ofp {P : Program} {n : Nat} {o : Oper} {fr : List Loc} {m m' : Store}
    (h : ∀ Γ M Ow a w, (∀ κ, κ ∈ fr → Γ.pin κ = none) → Rel P Γ M Ow n m a w → ∃ v w', (execOp a.eval o).run P w = .ok (.value v) w' ∧ RelX P Γ n m' (a.put o.dst v) w') : OAct P n o fr m m' := by
  rintro Γ a w hp ⟨M, Ow, hr⟩
  obtain ⟨v, w', hv, hx⟩ := h Γ M Ow a w hp hr
  refine ⟨fun _ _ => trivial, ?_⟩
  rw [show (FW Γ.rd).round = Γ.rd from rfl, semAt_of Γ.rd hv (fun d e => by cases e), Oper.uponIn_value]
  exact hx
theorem OAct.of {P : Program} {n : Nat} {o : Oper} {fr : List Loc} {m m' : Store}
    (h : ∀ Γ M Ow a w, Rel P Γ M Ow n m a w → ∃ v w', (execOp a.eval o).run P w = .ok (.value v) w' ∧ RelX P Γ n m' (a.put o.dst v) w') : OAct P n o fr m m' :=
  OAct.ofp fun Γ M Ow a w _ hr => h Γ M Ow a w hr
theorem OAct.of_skip {P : Program} {n : Nat} {o : Oper} {fr : List Loc} {m m' : Store}
    (h : ∀ Γ M Ow a w, Rel P Γ M Ow n m a w → ∃ w', (execOp a.eval o).run P w = .ok .skip w' ∧ RelX P Γ n m' (a.put o.dst undef) w') : OAct P n o fr m m' := by
  rintro Γ a w hp ⟨M, Ow, hr⟩
  obtain ⟨w', hv, hx⟩ := h Γ M Ow a w hr
  refine ⟨fun _ _ => trivial, ?_⟩
  rw [show (FW Γ.rd).round = Γ.rd from rfl, semAt_of Γ.rd hv (fun d e => by cases e), Oper.uponIn_skip]
  exact hx
structure Env where
  st : World → Prop
  pins : List Loc
def Env.ok (G : Env) (Γ : Ctx) : Prop := Γ.G = G.st ∧ ∀ κ, Γ.pin κ ≠ none → κ ∈ G.pins
end Go.Lg

set_option linter.unusedVariables false
namespace Go.Lg
open Go Go.RowKit
abbrev R := List Loc × List (Loc × AV) × List (Loc × AV)
def cAV : Value → Option AV
  | .agg _ => none
  | .tuple _ => none
  | .slice none 0 0 => none
  | v => some (.tr (.sc v))
def opK (m : Store) (x : Operand) (k : AV → List (Loc × AV) → Option R) : Option R := match x with
  | .tmp t => match lk m (.s t) with
    | some v => k v [(.s t, v)]
    | none => none
  | .const c => match cAV c with
    | some v => k v []
    | none => none
  | .func f => k (.fn f []) []
  | .global _ => none
def nd (v : AV) (k : AV → Option R) : Option R := match v with
  | .own _ xs => k (.tr (.ls xs))
  | .raw _ _ _ => k .unk
  | .rtup _ _ _ [] => k .unk
  | .rtup _ _ _ (r :: rs) => k (.tup (.unk :: (r :: rs).map .tr))
  | .unk => k .unk
  | .und => k .und
  | .tr t => k (.tr t)
  | .ptr κ o => k (.ptr κ o)
  | .sl κ a b => k (.sl κ a b)
  | .ep c o => k (.ep c o)
  | .agg xs => k (.agg xs)
  | .tup xs => k (.tup xs)
  | .fn f c => k (.fn f c)
  | .blk _ _ => none
theorem nd_eq {v : AV} {k : AV → Option R} {r : R} (h : nd v k = some r) : k v.deg = some r := by
  cases v with
  | rtup a b c rest => cases rest <;> exact h
  | _ => first | exact h | cases h
theorem opK_eq {m : Store} {x : Operand} {k : AV → List (Loc × AV) → Option R} {r : R} (h : opK m x k = some r) :
    ∃ v rs, k v rs = some r ∧ sat rs m ∧ (∀ (m' : Store), sat rs m' → ∀ κ, refsM κ m' = false → v.refs κ = false) ∧ ∀ (m' : Store), sat rs m' → ∀ (P : Program) (Γ : Ctx) (M : Nat → Nat → Prop) (Ow : Loc → Nat → Option Nat) (n : Nat) (a : Act) (w : World), Rel P Γ M Ow n m' a w → ∃ o, SRel P w M Ow v (a.eval x) o := by
  unfold opK at h
  split at h
  · rename_i t
    split at h
    · rename_i v hv
      exact ⟨v, _, h, ⟨hv, trivial⟩, fun m' hs κ hκ => refsM_lk' hκ hs.1, fun m' hs P Γ M Ow n a w hr => ⟨_, hr.slot t v hs.1⟩⟩
    · cases h
  · rename_i c
    split at h
    · rename_i v hv
      have hc : ∀ κ, v.refs κ = false := by
        intro κ
        unfold cAV at hv
        split at hv <;> first | (cases hv; done) | (obtain rfl := Option.some.inj hv; rfl)
      refine ⟨v, _, h, trivial, fun m' hs κ hκ => hc κ, fun m' hs P Γ M Ow n a w hr => ⟨none, ?_⟩⟩
      unfold cAV at hv
      split at hv <;> first
        | (cases hv; done)
        | (obtain rfl := Option.some.inj hv
           refine VRel.tr _ _ (.sc _ ?_)
           cases c <;> first | rfl | (simp_all; done))
    · cases h
  · rename_i f
    exact ⟨_, _, h, trivial, fun m' hs κ hκ => rfl, fun m' hs P Γ M Ow n a w hr => ⟨none, VRel.fn f [] #[] rfl (fun i x v hx _ => by simp at hx)⟩⟩
  · cases h
structure OSpec (P : Program) (n : Nat) (o : Oper) (m : Store) (r : R) : Prop where
  here : sat r.2.1 m
  act : ∀ m', sat r.2.1 m' → (∀ κ, κ ∈ r.1 → refsM κ m' = false) → OAct P n o r.1 m' (r.2.2 ++ m')
section
variable {P : Program} {n : Nat} {tab : Tab} {m : Store} {r : R}
theorem OSpec.val {o : Oper} {d : Nat} (hd : d < n) (ho : o.dst = some d) {rs : List (Loc × AV)} {v : AV} (hs : sat rs m)
    (h : ∀ m', sat rs m' → ∀ Γ M Ow a w, Rel P Γ M Ow n m' a w → ∃ cv, (execOp a.eval o).run P w = .ok (.value cv) w ∧ VRel w M (fun κ => Ow κ 0) v cv) :
    OSpec P n o m ([], rs, [(.s d, v)]) where
  here := hs
  act := fun m' hs' _ => OAct.of fun Γ M Ow a w hr => by
    obtain ⟨cv, h1, h2⟩ := h m' hs' Γ M Ow a w hr
    exact ⟨cv, w, h1, M, Ow, by rw [ho]; exact hr.put hd h2⟩
def evMove (m : Store) (tk : Bool) (d : Nat) (x : Operand) : Option R := match x, tk with
  | .tmp s, true => match lk m (.s s) with
    | some (.own ty xs) => some ([], [(.s s, .own ty xs)], [(.s d, .own ty xs), (.s s, .tr (.ls xs))])
    | some (.raw ty z xs) => some ([], [(.s s, .raw ty z xs)], [(.s d, .raw ty z xs), (.s s, .unk)])
    | some v => nd v fun v' => some ([], [(.s s, v)], [(.s d, v')])
    | none => none
  | x, _ => opK m x fun v rs => nd v fun v' => some ([], rs, [(.s d, v')])
theorem evMove_ok {o : Oper} {d : Nat} {x : Operand} {tk : Bool} (hd : d < n) (hdst : o.dst = some d) (hop : ∀ (ρ : Operand → Value), execOp ρ o = pure (.value (ρ x))) (h : evMove m tk d x = some r) : OSpec P n o m r := by
  have gen : ∀ {x : Operand} (hop : ∀ (ρ : Operand → Value), execOp ρ o = pure (.value (ρ x))), opK m x (fun v rs => nd v fun v' => some ([], rs, [(.s d, v')])) = some r → OSpec P n o m r := by
    intro x hop h
    obtain ⟨v, rs, h1, h2, _, h3⟩ := opK_eq h
    have h4 := nd_eq h1
    obtain rfl := Option.some.inj h4
    refine OSpec.val hd hdst h2 fun m' hs Γ M Ow a w hr => ?_
    obtain ⟨q, hq⟩ := h3 m' hs P Γ M Ow n a w hr
    exact ⟨a.eval x, by rw [hop]; rfl, deg_vrel hq⟩
  unfold evMove at h
  split at h
  · rename_i s
    split at h
    · rename_i ty xs hv
      obtain rfl := Option.some.inj h
      refine ⟨⟨hv, trivial⟩, fun m' hs _ => OAct.of fun Γ M Ow a w hr => ?_⟩
      obtain ⟨Ow', h'⟩ := hr.take hd (x := .own ty xs) rfl hs.1
      exact ⟨a.eval (.tmp s), w, by rw [hop]; rfl, M, Ow', by rw [hdst]; exact h'⟩
    · rename_i ty z xs hv
      obtain rfl := Option.some.inj h
      refine ⟨⟨hv, trivial⟩, fun m' hs _ => OAct.of fun Γ M Ow a w hr => ?_⟩
      obtain ⟨Ow', h'⟩ := hr.take hd (x := .raw ty z xs) rfl hs.1
      exact ⟨a.eval (.tmp s), w, by rw [hop]; rfl, M, Ow', by rw [hdst]; exact h'⟩
    · rename_i v hno hno2 hv
      have h4 := nd_eq h
      obtain rfl := Option.some.inj h4
      refine OSpec.val hd hdst ⟨hv, trivial⟩ fun m' hs Γ M Ow a w hr => ?_
      exact ⟨a.eval (.tmp s), by rw [hop]; rfl, deg_vrel (hr.slot s _ hs.1)⟩
    · cases h
  · exact gen hop h
def evNil (tab : Tab) (d t : Nat) : Option R := match tlk tab t with
  | some ⟨_, _, .slice e, _⟩ => match tlk tab e with
    | some _ => some ([], [], [(.s d, .own e [])])
    | none => none
  | _ => none
theorem evNil_ok {o : Oper} {d t : Nat} (hT : TabOk P tab) (hd : d < n) (hdst : o.dst = some d) (hop : ∀ (a : Act), execOp a.eval o = pure (.value (.slice none 0 0))) (h : evNil tab d t = some r) : OSpec P n o m r := by
  unfold evNil at h
  split at h
  · rename_i e _ ht
    split at h
    · rename_i de he
      obtain rfl := Option.some.inj h
      obtain ⟨i, hi, _⟩ := hT.info he
      refine ⟨trivial, fun m' hs _ => OAct.of fun Γ M Ow a w hr => ⟨_, w, by rw [hop]; rfl, M, setO Ow (.s d) 0 none, ?_⟩⟩
      rw [hdst]
      exact hr.putown hd (o := none) ⟨i, hi, (fun x hx => by cases hx), .inl ⟨rfl, none, rfl⟩⟩ (fun b hb => by cases hb)
    · cases h
  · cases h
theorem zOk_rel {w : World} {M : Nat → Nat → Prop} {Ow : Loc → Nat → Option Nat} {z : AV} {v : Value} (h : zOk z v = true) (hi : ∀ ty xs, z = .own ty xs → (P.info? ty).isSome = true) :
    SRel P w M Ow z v none ∧ v.oneCell' = true := by
  unfold zOk at h
  split at h
  · simp only [Bool.and_eq_true, beq_iff_eq] at h; obtain ⟨rfl, rfl⟩ := h
    exact ⟨VRel.tr _ _ (.sc _ rfl), rfl⟩
  · rename_i b
    obtain rfl : b = false := by simpa using h
    exact ⟨VRel.tr _ _ (.sc _ rfl), rfl⟩
  · rename_i s s'
    simp only [Bool.and_eq_true, beq_iff_eq] at h
    obtain rfl : s = s' := by
      cases s; cases s'
      simp only [ByteArray.size] at h
      rw [Array.eq_empty_of_size_eq_zero h.1, Array.eq_empty_of_size_eq_zero h.2]
    exact ⟨VRel.tr _ _ (.sc _ rfl), rfl⟩
  · exact ⟨VRel.tr _ _ (.sc _ rfl), rfl⟩
  · rename_i k k' a b
    simp only [Bool.and_eq_true, beq_iff_eq] at h
    obtain ⟨⟨h1, rfl⟩, rfl⟩ := h
    cases k <;> cases k' <;> first | (cases h1; done) | exact ⟨VRel.tr _ _ (.sc _ rfl), rfl⟩
  · exact ⟨VRel.tr _ _ (.sc _ rfl), rfl⟩
  · exact ⟨VRel.tr _ _ (.sc _ rfl), rfl⟩
  · exact ⟨VRel.tr _ _ (.sc _ rfl), rfl⟩
  · rename_i ty
    have := hi ty [] rfl
    obtain ⟨i, hi⟩ := Option.isSome_iff_exists.1 this
    exact ⟨⟨i, hi, (fun x hx => by cases hx), .inl ⟨rfl, none, rfl⟩⟩, rfl⟩
  · cases h
theorem zOk_refs {z : AV} {v : Value} (h : zOk z v = true) (κ : Loc) : z.refs κ = false := by
  unfold zOk at h
  split at h <;> first | rfl | (cases h; done)
theorem zsOk_all : ∀ {zs : List AV} {vs : List Value}, zsOk zs vs = true → ownTys P zs = true → zs.length = vs.length ∧ (∀ κ, refsL κ zs = false) ∧
    (∀ (i : Nat) (v : Value), vs[i]? = some v → v.oneCell' = true) ∧ ∀ (w : World) (M : Nat → Nat → Prop) (Ow : Loc → Nat → Option Nat) (i : Nat) (y : AV) (v : Value), zs[i]? = some y → vs[i]? = some v → SRel P w M Ow y v none
  | [], [], _, _ => ⟨rfl, fun _ => rfl, by simp, by simp⟩
  | z :: zs, v :: vs, h, ho => by
    simp only [zsOk, Bool.and_eq_true] at h
    have ho' : ownTys P zs = true ∧ ∀ ty xs, z = .own ty xs → (P.info? ty).isSome = true := by
      cases z with
      | own ty xs =>
        simp only [ownTys, Bool.and_eq_true] at ho
        exact ⟨ho.2, fun ty' xs' e => by injection e with e1 e2; rw [← e1]; exact ho.1⟩
      | _ => exact ⟨by simpa only [ownTys] using ho, fun ty xs e => by cases e⟩
    obtain ⟨i1, i2, i3, i4⟩ := zsOk_all h.2 ho'.1
    refine ⟨by simp [i1], fun κ => by simp only [refsL, zOk_refs h.1, i2, Bool.or_false], ?_, ?_⟩
    · intro i u hu
      cases i with
      | zero => simp at hu; subst hu; exact (zOk_rel (P := P) (w := default) (M := fun _ _ => False) (Ow := fun _ _ => none) h.1 ho'.2).2
      | succ i => exact i3 i u (by simpa using hu)
    · intro w M Ow i y u hy hu
      cases i with
      | zero => simp at hy hu; subst hy; subst hu; exact (zOk_rel h.1 ho'.2).1
      | succ i => exact i4 w M Ow i y u (by simpa using hy) (by simpa using hu)
  | [], _ :: _, h, _ => by cases h
  | _ :: _, [], h, _ => by cases h
theorem below_alloc (w : World) (o : Obj) : Below w.heap.size w (w.alloc o) := (Below.refl _ _).alloc (Nat.le_refl _) o
theorem alloc_at (w : World) (o : Obj) : (w.alloc o).heap[w.heap.size]? = some o := heap_alloc_new w o
theorem Rel.alloc {Γ : Ctx} {M : Nat → Nat → Prop} {Ow : Loc → Nat → Option Nat} {a : Act} {w : World} (h : Rel P Γ M Ow n m a w) {d : Nat} (hd : d < n) (hpn : Γ.pin (.l d) = none) (hr : refsM (.l d) m = false) {cs : Array Value} {ty : TypeId} {cells : List AV}
    (hs : cs.size = cells.length) (h1 : ∀ (i : Nat) (v : Value), cs[i]? = some v → v.oneCell' = true) (hc : ∀ (w' : World), Below w.heap.size w w' → ∀ (i : Nat) (y : AV) (v : Value), cells[i]? = some y → cs[i]? = some v → SRel P w' M Ow y v none)
    (hrc : refsL (.l d) cells = false) :
    RelX P Γ n ([(.s d, .ptr (.l d) 0), (.l d, .blk ty cells)] ++ m) (a.put (some d) (.pointer (some ⟨w.heap.size, 0, none⟩))) (w.alloc (.cells cs ty)) := by
  have hb := below_alloc w (.cells cs ty)
  have h1' := h.ext (w' := w.alloc (.cells cs ty)) (M' := M) hb (fun _ _ h => h) (fun _ _ h => .inl h) (fun b o hm => Nat.lt_of_lt_of_le (h.mlt b o hm) hb.size)
  have h2 := h1'.addblk (κ := .l d) rfl hpn hr (b := w.heap.size) (alloc_at w _) (fun l i e => absurd (h.lt l i _ e) (Nat.lt_irrefl _)) h.fr.size (fun o hm => absurd (h.mlt _ _ hm) (Nat.lt_irrefl _)) hs h1 (fun i y v hy hv => hc _ hb i y v hy hv) hrc
  exact ⟨_, _, h2.put hd (.ptr (.l d) 0 w.heap.size rfl (by simp))⟩
def evAlloc (tab : Tab) (d t : Nat) : Option R := match tlk tab t with
  | some ⟨_, _, _, zs⟩ => some ([.l d], [], [(.s d, .ptr (.l d) 0), (.l d, .blk t zs)])
  | none => none
theorem evAlloc_ok {o : Oper} {d t : Nat} (hT : TabOk P tab) (hd : d < n) (hdst : o.dst = some d) (hop : ∀ (ρ : Operand → Value), execOp ρ o = (do pure (.value (← Instr.alloc t true (.tuple #[]))))) (h : evAlloc tab d t = some r) : OSpec P n o m r := by
  unfold evAlloc at h
  split at h
  · rename_i sz by' k zs ht
    obtain rfl := Option.some.inj h
    obtain ⟨i, hi, _, _, _, ho, z, hz, hzs⟩ := hT.info ht
    obtain ⟨z1, z2, z3, z4⟩ := zsOk_all hzs ho
    refine ⟨trivial, fun m' hs hf => OAct.ofp fun Γ M Ow a w hpn hr => ?_⟩
    refine ⟨.pointer (some ⟨w.heap.size, 0, none⟩), w.alloc (.cells z.cells t), ?_, ?_⟩
    · rw [hop]
      simp [Instr.alloc, zeroValue, typeInfo, hi, hz, newVar, newRow]
    · rw [hdst]
      exact hr.alloc hd (hpn _ (by simp)) (hf _ (by simp)) (by rw [z1]; simp) (fun i v hv => z3 i v (by simpa using hv)) (fun w' _ i y v hy hv => z4 w' M Ow i y v hy (by simpa using hv)) (z2 _)
  · cases h
end
end Go.Lg

set_option linter.unusedVariables false
namespace Go.Lg
open Go Go.RowKit
section
variable {P : Program} {n : Nat} {tab : Tab} {m : Store} {r : R} {α : Type}
def trsK : List T → (List AV → Option R) → Option R
  | [], k => k []
  | t :: ts, k => trsK ts fun r => k (.tr t :: r)
theorem trsK_eq : ∀ {ts : List T} {k : List AV → Option R}, trsK ts k = k (ts.map .tr)
  | [], _ => rfl
  | t :: ts, k => by unfold trsK; rw [trsK_eq]; rfl
def cellsK (v : AV) (k : List AV → Option R) : Option R := match v with
  | .tr (.ag ts) => trsK ts k
  | .tr (.sc c) => k [.tr (.sc c)]
  | .tr (.ls xs) => k [.tr (.ls xs)]
  | .own _ xs => k [.tr (.ls xs)]
  | .agg xs => k xs
  | .ptr κ o => k [.ptr κ o]
  | .ep cs o => k [.ep cs o]
  | .fn f c => k [.fn f c]
  | .sl κ a b => k [.sl κ a b]
  | _ => none
def CellsRel (v : AV) (vs : List AV) : Prop :=
  (∀ (P : Program) (w : World) (M : Nat → Nat → Prop) (Ow : Loc → Nat → Option Nat) (o : Option Nat) (cv : Value), SRel P w M Ow v cv o → cv.cells.size = vs.length ∧ (∀ (i : Nat) (u : Value), cv.cells[i]? = some u → u.oneCell' = true) ∧
    ∀ (i : Nat) (y : AV) (u : Value), vs[i]? = some y → cv.cells[i]? = some u → VRel w M (fun κ => Ow κ 0) y u) ∧ ∀ κ, v.refs κ = false → refsL κ vs = false
theorem one_cells {v : Value} (h : v.oneCell' = true) : v.cells = #[v] := by cases v <;> first | rfl | cases h
theorem one_rel {v : AV} {w : World} {M : Nat → Nat → Prop} {bk : Loc → Option Nat} {cv : Value} (h : VRel w M bk v cv) (h1 : cv.oneCell' = true) : cv.cells.size = [v].length ∧ (∀ (i : Nat) (u : Value), cv.cells[i]? = some u → u.oneCell' = true) ∧
    ∀ (i : Nat) (y : AV) (u : Value), [v][i]? = some y → cv.cells[i]? = some u → VRel w M bk y u := by
  rw [one_cells h1]
  refine ⟨rfl, ?_, ?_⟩
  · intro i u hu
    cases i with
    | zero => simp at hu; subst hu; exact h1
    | succ i => simp at hu
  · intro i y u hy hu
    cases i with
    | zero => simp at hy hu; subst hy; subst hu; exact h
    | succ i => simp at hu
theorem cellsK_eq {v : AV} {k : List AV → Option R} (h : cellsK v k = some r) : ∃ vs, k vs = some r ∧ CellsRel v vs := by
  unfold cellsK at h
  split at h
  · rename_i ts
    rw [trsK_eq] at h
    refine ⟨_, h, fun P w M Ow o cv hv => ?_, fun κ _ => ?_⟩
    · cases hv with
      | tr _ _ hv =>
        cases hv with
        | ag _ cs h1 h2 h3 =>
          refine ⟨by simp [Value.cells, h1], h2, fun i y u hy hu => ?_⟩
          rw [List.getElem?_map] at hy
          obtain ⟨x, hx, rfl⟩ := Option.map_eq_some_iff.1 hy
          exact .tr _ _ (h3 i x u hx hu)
    · clear h
      induction ts with
      | nil => rfl
      | cons t ts ih => simp only [List.map_cons, refsL, AV.refs, Bool.false_or]; exact ih rfl
  · rename_i c
    refine ⟨_, h, fun P w M Ow o cv hv => ?_, fun κ _ => rfl⟩
    cases hv with
    | tr _ _ hv => cases hv with
      | sc _ h1 => exact one_rel (.tr _ _ (.sc _ h1)) h1
  · rename_i xs
    refine ⟨_, h, fun P w M Ow o cv hv => ?_, fun κ _ => rfl⟩
    refine one_rel hv ?_
    cases hv with
    | tr _ _ hv => cases hv <;> rfl
  · rename_i ty xs
    refine ⟨_, h, fun P w M Ow o cv hv => ?_, fun κ _ => rfl⟩
    have := deg_vrel hv
    refine one_rel this ?_
    cases this with
    | tr _ _ hv => cases hv <;> rfl
  · rename_i xs
    refine ⟨_, h, fun P w M Ow o cv hv => ?_, fun κ hr => by simpa only [AV.refs] using hr⟩
    cases hv with
    | agg _ cs h1 h2 h3 => exact ⟨h1, h2, h3⟩
  · refine ⟨_, h, fun P w M Ow o cv hv => ?_, fun κ hr => by simp only [refsL, hr, Bool.or_false]⟩
    refine one_rel hv ?_
    cases hv; rfl
  · refine ⟨_, h, fun P w M Ow o cv hv => ?_, fun κ hr => by simp only [refsL, hr, Bool.or_false]⟩
    refine one_rel hv ?_
    cases hv; rfl
  · refine ⟨_, h, fun P w M Ow o cv hv => ?_, fun κ hr => by simp only [refsL, hr, Bool.or_false]⟩
    refine one_rel hv ?_
    cases hv; rfl
  · refine ⟨_, h, fun P w M Ow o cv hv => ?_, fun κ hr => by simp only [refsL, hr, Bool.or_false]⟩
    refine one_rel hv ?_
    cases hv; rfl
  · cases h
def evBox (m : Store) (d t : Nat) (x : Operand) : Option R := opK m x fun v rs => cellsK v fun vs => some ([.l d], rs, [(.s d, .ptr (.l d) 0), (.l d, .blk t vs)])
theorem evBox_ok {o : Oper} {d t : Nat} {x : Operand} (hd : d < n) (hdst : o.dst = some d) (hop : ∀ (ρ : Operand → Value), execOp ρ o = (do pure (.value (← Instr.box t (ρ x))))) (h : evBox m d t x = some r) : OSpec P n o m r := by
  obtain ⟨v, rs, h1, h2, h3, h4⟩ := opK_eq h
  obtain ⟨vs, h5, hc, hr'⟩ := cellsK_eq h1
  obtain rfl := Option.some.inj h5
  refine ⟨h2, fun m' hs hf => OAct.ofp fun Γ M Ow a w hpn hr => ?_⟩
  obtain ⟨q, hq⟩ := h4 m' hs P Γ M Ow n a w hr
  obtain ⟨c1, c2, c3⟩ := hc P w M Ow q _ hq
  refine ⟨.pointer (some ⟨w.heap.size, 0, none⟩), w.alloc (.cells (a.eval x).cells t), ?_, ?_⟩
  · rw [hop]; simp [Instr.box, newVar, newRow]
  · rw [hdst]
    refine hr.alloc hd (hpn _ (by simp)) (hf _ (by simp)) c1 c2 (fun w' hb i y u hy hu => srel_of ((c3 i y u hy hu).mono (fun b o hm => ⟨hm, hb.cell (p := ⟨b, o, none⟩) (hr.mlt b o hm)⟩) (fun _ _ _ _ e => e)) _) (hr' _ (h3 m' hs _ (hf _ (by simp))))
def dropK (k : List α → Option R) : List α → Nat → Option R
  | cs, 0 => k cs
  | _ :: cs, n + 1 => dropK k cs n
  | [], _ + 1 => none
def takeK : List α → Nat → (List α → Option R) → Option R
  | _, 0, k => k []
  | c :: cs, n + 1, k => takeK cs n fun r => k (c :: r)
  | [], _ + 1, _ => none
theorem dropK_eq {k : List α → Option R} : ∀ {cs : List α} {n : Nat}, dropK k cs n = some r → k (cs.drop n) = some r ∧ n ≤ cs.length
  | cs, 0, h => ⟨by simpa [dropK] using h, Nat.zero_le _⟩
  | c :: cs, n + 1, h => by
    have := dropK_eq (cs := cs) (n := n) (by simpa [dropK] using h)
    exact ⟨by simpa using this.1, by simpa using this.2⟩
  | [], n + 1, h => by simp [dropK] at h
theorem takeK_eq : ∀ {cs : List α} {n : Nat} {k : List α → Option R}, takeK cs n k = some r → k (cs.take n) = some r ∧ n ≤ cs.length
  | cs, 0, k, h => ⟨by simpa [takeK] using h, Nat.zero_le _⟩
  | c :: cs, n + 1, k, h => by
    have := takeK_eq (cs := cs) (n := n) (by simpa only [takeK] using h)
    exact ⟨by simpa using this.1, by simpa using this.2⟩
  | [], n + 1, k, h => by simp [takeK] at h
def nthK (k : α → Option R) : List α → Nat → Option R
  | c :: _, 0 => k c
  | _ :: cs, n + 1 => nthK k cs n
  | [], _ => none
theorem nthK_eq {k : α → Option R} : ∀ {cs : List α} {n : Nat}, nthK k cs n = some r → ∃ c, cs[n]? = some c ∧ k c = some r
  | c :: cs, 0, h => ⟨c, rfl, h⟩
  | c :: cs, n + 1, h => by
    obtain ⟨x, h1, h2⟩ := nthK_eq (cs := cs) (n := n) (by simpa only [nthK] using h)
    exact ⟨x, by simpa using h1, h2⟩
  | [], _, h => by simp [nthK] at h
def packO : List AV → Option (List T)
  | [] => some []
  | .tr t :: r => match packO r with
    | some ts => some (t :: ts)
    | none => none
  | .own _ xs :: r => match packO r with
    | some ts => some (.ls xs :: ts)
    | none => none
  | _ => none
theorem packO_eq : ∀ {vs : List AV} {ts : List T}, packO vs = some ts → ts.length = vs.length ∧ ∀ (i : Nat) (t : T), ts[i]? = some t → ∃ y, vs[i]? = some y ∧ y.deg = .tr t
  | [], ts, h => by obtain rfl := Option.some.inj h; simp
  | .tr t :: r, ts, h => by
    simp only [packO] at h
    split at h
    · rename_i ts' e
      obtain rfl := Option.some.inj h
      obtain ⟨h1, h2⟩ := packO_eq e
      refine ⟨by simp [h1], fun i t' ht => ?_⟩
      cases i with
      | zero => simp at ht; subst ht; exact ⟨_, rfl, rfl⟩
      | succ i => simpa using h2 i t' (by simpa using ht)
    · cases h
  | .own ty xs :: r, ts, h => by
    simp only [packO] at h
    split at h
    · rename_i ts' e
      obtain rfl := Option.some.inj h
      obtain ⟨h1, h2⟩ := packO_eq e
      refine ⟨by simp [h1], fun i t' ht => ?_⟩
      cases i with
      | zero => simp at ht; subst ht; exact ⟨_, rfl, rfl⟩
      | succ i => simpa using h2 i t' (by simpa using ht)
    · cases h
  | .unk :: _, _, h | .und :: _, _, h | .raw _ _ _ :: _, _, h | .rtup _ _ _ _ :: _, _, h | .ptr _ _ :: _, _, h | .sl _ _ _ :: _, _, h | .ep _ _ :: _, _, h | .agg _ :: _, _, h | .tup _ :: _, _, h | .fn _ _ :: _, _, h | .blk _ _ :: _, _, h => by simp [packO] at h
def degK : List AV → (List AV → Option R) → Option R
  | [], k => k []
  | v :: r, k => nd v fun v' => degK r fun r' => k (v' :: r')
theorem degK_eq : ∀ {vs : List AV} {k : List AV → Option R}, degK vs k = some r → k (vs.map AV.deg) = some r
  | [], k, h => h
  | v :: vs, k, h => by
    have h1 := nd_eq (by simpa only [degK] using h)
    exact degK_eq (k := fun r' => k (v.deg :: r')) h1
theorem add_lit (b o j : Nat) : (⟨b, o, none⟩ : Addr).add j = ⟨b, o + j, none⟩ := by unfold Addr.add; split <;> simp_all
theorem run_loadVar_agg {t b o : Nat} {d : TD} (hT : TabOk P tab) (ht : tlk tab t = some d) (ha : d.kind.agg = true) {w : World} {cs : List Value} (hl : cs.length = d.size) (hc : ∀ (j : Nat) (v : Value), cs[j]? = some v → w.cell? ⟨b, o + j, none⟩ = some v) :
    (Instr.loadAt t (.pointer (some ⟨b, o, none⟩))).run P w = .ok (.agg cs.toArray) w := by
  obtain ⟨i, hi, hs, _⟩ := hT.info ht
  have h1 := hT.isAgg ht w
  have h2 := run_loadCells_list (P := P) w ⟨b, o, none⟩ cs (fun j v hv => by rw [add_lit]; exact hc j v hv)
  simp [Instr.loadAt, Instr.sureAddr, loadVar, h1, ha, sizeOf, typeInfo, hi, hs, ← hl, h2]
theorem run_loadVar_one {t b o : Nat} {d : TD} (hT : TabOk P tab) (ht : tlk tab t = some d) (ha : d.kind.agg = false) {w : World} {v : Value} (hc : w.cell? ⟨b, o, none⟩ = some v) :
    (Instr.loadAt t (.pointer (some ⟨b, o, none⟩))).run P w = .ok v w := by
  have h1 := hT.isAgg ht w
  simp [Instr.loadAt, Instr.sureAddr, loadVar, h1, ha, hc]
end
end Go.Lg

set_option linter.unusedVariables false
namespace Go.Lg
open Go Go.RowKit
section
variable {P : Program} {n : Nat} {tab : Tab} {m : Store} {r : R}
theorem Rel.takecell {Γ : Ctx} {M : Nat → Nat → Prop} {Ow : Loc → Nat → Option Nat} {a : Act} {w : World} (h : Rel P Γ M Ow n m a w) {κ : Loc} (hL : κ.isL = true) {ty : TypeId} {cells : List AV} (hl : lk m κ = some (.blk ty cells))
    {off : Nat} {x : AV} (hx : x.isOwn = true) (hc : cells[off]? = some x) {d : Nat} (hd : d < n) {b : Nat} (hb : Ow κ 0 = some b) {cv : Value} (hcv : w.cell? ⟨b, off, none⟩ = some cv) :
    RelX P Γ n ([(.s d, x), (κ, .blk ty (cells.set off x.deg))] ++ m) (a.put (some d) cv) w := by
  have hk := Loc.isL_blk hL
  obtain ⟨ty0, cells0, b0, cs, e0, ho, hh, hs, hn, h1, hcs⟩ := h.blk κ _ hk hl
  obtain ⟨rfl, rfl⟩ : ty = ty0 ∧ cells = cells0 := by injection e0; exact ⟨‹_›, ‹_›⟩
  obtain rfl : b = b0 := by rw [hb] at ho; exact Option.some.inj ho
  have hcv' : cs[off]? = some cv := by simpa [World.cell?, hh] using hcv
  have hv : SRel P w M Ow x cv (Ow κ (off + 1)) := hcs off _ cv hc hcv'
  have h2 := h.labelblk (κ := κ) hk (v' := .blk ty (cells.set off x.deg)) ⟨ty, _, b, cs, rfl, hb, hh, by simp [hs], hn, h1, by
    intro i y u hy hu
    rw [List.getElem?_set] at hy
    split at hy
    · rename_i ei
      subst ei
      split at hy
      · obtain rfl := Option.some.inj hy
        rw [hcv'] at hu; obtain rfl := Option.some.inj hu
        exact srel_of (deg_vrel hv) _
      · cases hy
    · exact hcs i y u hy hu⟩
  have hval : isVal κ (off + 1) = true := by cases κ <;> first | rfl | cases hk
  have h3 := h2.setOw (l := κ) (i := off + 1) hval none (fun b hb => by cases hb) (fun t v e' => by rw [e'] at hk; cases hk) (by
    intro ty' cells' j b' cs' y v _ hlk hj hy hb' hh' hv'
    rw [lk_self] at hlk
    obtain ⟨rfl, rfl⟩ : ty = ty' ∧ cells.set off x.deg = cells' := by injection hlk with hlk; injection hlk; exact ⟨‹_›, ‹_›⟩
    obtain rfl : off = j := by omega
    have hlt : off < cells.length := by
      rcases Nat.lt_or_ge off cells.length with h | h
      · exact h
      · rw [List.getElem?_eq_none h] at hc; cases hc
    rw [List.getElem?_set_self hlt] at hy
    obtain rfl := Option.some.inj hy
    rw [hb] at hb'; obtain rfl := Option.some.inj hb'
    rw [hh] at hh'
    obtain rfl : cs = cs' := by injection hh' with hh'; injection hh'
    rw [hcv'] at hv'; obtain rfl := Option.some.inj hv'
    exact srel_of (deg_vrel hv) _)
  refine ⟨M, _, h3.putv hd (o := Ow κ (off + 1)) (own_any hx hv) (own_refs hx) ?_⟩
  intro c hc'
  refine ⟨fun l i e' => ?_, h.lt _ _ _ hc', h.mineL (fun j e => by rw [e] at hL; cases hL) hc'⟩
  by_cases e2 : l = κ ∧ i = off + 1
  · obtain ⟨rfl, rfl⟩ := e2; rw [setO_self] at e'; cases e'
  · rw [setO_ne _ e2] at e'; exact e2 (h.inj _ _ _ _ _ e' hc')
def setK : List AV → Nat → List AV → (List AV → Option R) → Option R
  | cs, 0, [], k => k cs
  | _ :: cs, 0, v :: vs, k => setK cs 0 vs fun r => k (v :: r)
  | c :: cs, o + 1, vs, k => setK cs o vs fun r => k (c :: r)
  | [], 0, _ :: _, _ => none
  | [], _ + 1, _, _ => none
theorem setK_eq : ∀ {cs : List AV} {o : Nat} {vs : List AV} {k : List AV → Option R}, setK cs o vs k = some r → k (cs.take o ++ vs ++ cs.drop (o + vs.length)) = some r ∧ o + vs.length ≤ cs.length
  | cs, 0, [], k, h => by simpa [setK] using h
  | c :: cs, 0, v :: vs, k, h => by
    have := setK_eq (cs := cs) (o := 0) (vs := vs) (by simpa only [setK] using h)
    simpa [Nat.add_comm] using this
  | c :: cs, o + 1, vs, k, h => by
    have := setK_eq (cs := cs) (o := o) (vs := vs) (by simpa only [setK] using h)
    refine ⟨?_, by simp; omega⟩
    have e : o + 1 + vs.length = (o + vs.length) + 1 := by omega
    rw [e]; simpa using this.1
  | [], 0, _ :: _, k, h => by simp [setK] at h
  | [], _ + 1, _, k, h => by simp [setK] at h
def evLoad (tab : Tab) (m : Store) (tk : Bool) (d t : Nat) (p : Operand) : Option R := match tlk tab t with
  | none => none
  | some ⟨size, _, kind, _⟩ => opK m p fun pv rs => match pv with
    | .ptr κ off => match lk m κ with
      | some (.blk ty cells) => match kind.agg with
        | true => dropK (fun cs => takeK cs size fun cs => match packO cs with
          | some ts => some ([], (κ, .blk ty cells) :: rs, [(.s d, .tr (.ag ts))])
          | none => degK cs fun cs => some ([], (κ, .blk ty cells) :: rs, [(.s d, .agg cs)])) cells off
        | false => nthK (fun v => match v, tk && κ.isL with
          | .own e xs, true => setK cells off [.tr (.ls xs)] fun cells' => some ([], (κ, .blk ty cells) :: rs, [(.s d, .own e xs), (κ, .blk ty cells')])
          | .raw e z xs, true => setK cells off [.unk] fun cells' => some ([], (κ, .blk ty cells) :: rs, [(.s d, .raw e z xs), (κ, .blk ty cells')])
          | v, _ => nd v fun v' => some ([], (κ, .blk ty cells) :: rs, [(.s d, v')])) cells off
      | _ => none
    | .ep cs off => match kind.agg with
      | true => dropK (fun cs => takeK cs size fun ts => some ([], rs, [(.s d, .tr (.ag ts))])) cs off
      | false => nthK (fun t => some ([], rs, [(.s d, .tr t)])) cs off
    | _ => none
theorem opK_ptr {x : Operand} {v : AV} {rs : List (Loc × AV)} {Γ : Ctx} {M : Nat → Nat → Prop} {Ow : Loc → Nat → Option Nat} {a : Act} {w : World} {o : Option Nat} {κ : Loc} {off : Nat}
    (h : SRel P w M Ow (.ptr κ off) (a.eval x) o) : ∃ b, κ.isBlk = true ∧ Ow κ 0 = some b ∧ a.eval x = .pointer (some ⟨b, off, none⟩) := by
  have h : VRel w M (fun κ => Ow κ 0) (.ptr κ off) (a.eval x) := h
  cases hv : a.eval x with
  | pointer p =>
    rw [hv] at h
    cases h with
    | ptr _ _ b hk hb => exact ⟨b, hk, hb, rfl⟩
  | _ => rw [hv] at h; cases h
theorem evLoad_ok {o : Oper} {d t : Nat} {p : Operand} {tk : Bool} (hT : TabOk P tab) (hd : d < n) (hdst : o.dst = some d) (hop : ∀ (ρ : Operand → Value), execOp ρ o = (do pure (.value (← Instr.loadAt t (ρ p))))) (h : evLoad tab m tk d t p = some r) : OSpec P n o m r := by
  unfold evLoad at h
  split at h
  · cases h
  · rename_i size bytes kind zero ht
    obtain ⟨pv, rs, h1, h2, h3, h4⟩ := opK_eq h
    have run : ∀ {a : Act} {w : World} {v : Value}, (Instr.loadAt t (a.eval p)).run P w = .ok v w → (execOp a.eval o).run P w = .ok (.value v) w := by
      intro a w v hv; rw [hop]; simp [hv]
    cases pv with
    | ptr κ off =>
      simp only at h1
      split at h1
      · rename_i ty cells hκ
        have base : ∀ (m' : Store), sat ((κ, .blk ty cells) :: rs) m' → ∀ {Γ : Ctx} {M : Nat → Nat → Prop} {Ow : Loc → Nat → Option Nat} {a : Act} {w : World}, Rel P Γ M Ow n m' a w →
            ∃ b cs, κ.isBlk = true ∧ Ow κ 0 = some b ∧ a.eval p = .pointer (some ⟨b, off, none⟩) ∧ w.heap[b]? = some (.cells cs ty (0, 0)) ∧ cs.size = cells.length ∧ (∀ (i : Nat) (v : Value), cs[i]? = some v → v.oneCell' = true) ∧
            ∀ (i : Nat) (y : AV) (v : Value), cells[i]? = some y → cs[i]? = some v → SRel P w M Ow y v (Ow κ (i + 1)) := by
          intro m' hs Γ M Ow a w hr
          obtain ⟨q, hq⟩ := h4 m' hs.2 P Γ M Ow n a w hr
          obtain ⟨b, hk, hb, hv⟩ := opK_ptr (Γ := Γ) (rs := rs) (v := .ptr κ off) hq
          obtain ⟨ty0, cells0, b0, cs, e0, ho, hh, hs', hn, h1, hcs⟩ := hr.blk κ _ hk hs.1
          obtain ⟨rfl, rfl⟩ : ty = ty0 ∧ cells = cells0 := by injection e0; exact ⟨‹_›, ‹_›⟩
          obtain rfl : b = b0 := by rw [hb] at ho; exact Option.some.inj ho
          exact ⟨b, cs, hk, hb, hv, hh, hs', h1, hcs⟩
        split at h1
        · rename_i hagg
          obtain ⟨h5, hoff⟩ := dropK_eq h1
          obtain ⟨h6, hsz⟩ := takeK_eq h5
          have sub : ∀ {cs : Array Value}, cs.size = cells.length → ((cs.toList.drop off).take size).length = size := by
            intro cs hs; simp at hsz ⊢; omega
          have subc : ∀ {w : World} {b : Nat} {cs : Array Value}, w.heap[b]? = some (.cells cs ty (0, 0)) → ∀ (j : Nat) (v : Value), ((cs.toList.drop off).take size)[j]? = some v → w.cell? ⟨b, off + j, none⟩ = some v := by
            intro w b cs hh j v hv
            rw [List.getElem?_take] at hv
            split at hv
            · rw [List.getElem?_drop] at hv
              simpa [World.cell?, hh] using hv
            · cases hv
          have pick : ∀ {β : Type} {l : List β} {i : Nat} {y : β}, ((l.drop off).take size)[i]? = some y → l[off + i]? = some y := by
            intro β l i y hy
            rw [List.getElem?_take] at hy
            split at hy
            · rw [List.getElem?_drop] at hy; exact hy
            · cases hy
          have pickA : ∀ {cs : Array Value} {i : Nat} {v : Value}, ((cs.toList.drop off).take size).toArray[i]? = some v → cs[off + i]? = some v := by
            intro cs i v hv
            rw [List.getElem?_toArray] at hv
            have := pick hv
            rwa [Array.getElem?_toList] at this
          split at h6
          · rename_i ts hp
            obtain rfl := Option.some.inj h6
            obtain ⟨p1, p2⟩ := packO_eq hp
            refine OSpec.val hd hdst ⟨hκ, h2⟩ fun m' hs Γ M Ow a w hr => ?_
            obtain ⟨b, cs, hk, hb, hv, hh, hs', h1', hcs⟩ := base m' hs hr
            refine ⟨_, run (by rw [hv]; exact run_loadVar_agg hT ht hagg (sub hs') (subc hh)), .tr _ _ (.ag _ _ ?_ ?_ ?_)⟩
            · rw [p1]; have := sub hs'; simp at this ⊢; simp at hsz; omega
            · intro i v hv'
              exact h1' (off + i) v (pickA hv')
            · intro i x v hx hv'
              obtain ⟨y, hy, hyd⟩ := p2 i x hx
              have := deg_vrel (hcs (off + i) y v (pick hy) (pickA hv'))
              rw [hyd] at this
              cases this with
              | tr _ _ h => exact h
          · have h7 := degK_eq h6
            obtain rfl := Option.some.inj h7
            refine OSpec.val hd hdst ⟨hκ, h2⟩ fun m' hs Γ M Ow a w hr => ?_
            obtain ⟨b, cs, hk, hb, hv, hh, hs', h1', hcs⟩ := base m' hs hr
            refine ⟨_, run (by rw [hv]; exact run_loadVar_agg hT ht hagg (sub hs') (subc hh)), .agg _ _ ?_ ?_ ?_⟩
            · have := sub hs'; simp at this ⊢; simp at hsz; omega
            · intro i v hv'
              exact h1' (off + i) v (pickA hv')
            · intro i x v hx hv'
              rw [List.getElem?_map] at hx
              obtain ⟨y, hy, rfl⟩ := Option.map_eq_some_iff.1 hx
              exact deg_vrel (hcs (off + i) y v (pick hy) (pickA hv'))
        · rename_i hagg
          obtain ⟨c, hc, h5⟩ := nthK_eq h1
          split at h5
          · rename_i e xs htk
            have hL : κ.isL = true := by revert htk; cases tk <;> cases κ.isL <;> decide
            obtain ⟨h6, hlen⟩ := setK_eq h5
            obtain rfl := Option.some.inj h6
            refine ⟨⟨hκ, h2⟩, fun m' hs _ => OAct.of fun Γ M Ow a w hr => ?_⟩
            obtain ⟨b, cs, hk, hb, hv, hh, hs', h1', hcs⟩ := base m' hs hr
            have hlt : off < cs.size := by simp at hlen; omega
            have hcell : w.cell? ⟨b, off, none⟩ = some cs[off] := by simp [World.cell?, hh, hlt]
            refine ⟨cs[off], w, run (by rw [hv]; exact run_loadVar_one hT ht hagg hcell), ?_⟩
            have := hr.takecell hL hs.1 (x := .own e xs) rfl hc hd hb hcell
            rw [hdst]
            have e1 : cells.take off ++ [AV.tr (.ls xs)] ++ cells.drop (off + [AV.tr (.ls xs)].length) = cells.set off (AV.tr (.ls xs)) := by
              rw [List.set_eq_take_append_cons_drop, if_pos (by simp at hlen; omega)]; simp
            simpa only [e1, AV.deg] using this
          · rename_i e z xs htk
            have hL : κ.isL = true := by revert htk; cases tk <;> cases κ.isL <;> decide
            obtain ⟨h6, hlen⟩ := setK_eq h5
            obtain rfl := Option.some.inj h6
            refine ⟨⟨hκ, h2⟩, fun m' hs _ => OAct.of fun Γ M Ow a w hr => ?_⟩
            obtain ⟨b, cs, hk, hb, hv, hh, hs', h1', hcs⟩ := base m' hs hr
            have hlt : off < cs.size := by simp at hlen; omega
            have hcell : w.cell? ⟨b, off, none⟩ = some cs[off] := by simp [World.cell?, hh, hlt]
            refine ⟨cs[off], w, run (by rw [hv]; exact run_loadVar_one hT ht hagg hcell), ?_⟩
            have := hr.takecell hL hs.1 (x := .raw e z xs) rfl hc hd hb hcell
            rw [hdst]
            have e1 : cells.take off ++ [AV.unk] ++ cells.drop (off + [AV.unk].length) = cells.set off (AV.unk) := by
              rw [List.set_eq_take_append_cons_drop, if_pos (by simp at hlen; omega)]; simp
            simpa only [e1, AV.deg] using this
          · have h6 := nd_eq h5
            obtain rfl := Option.some.inj h6
            refine OSpec.val hd hdst ⟨hκ, h2⟩ fun m' hs Γ M Ow a w hr => ?_
            obtain ⟨b, cs, hk, hb, hv, hh, hs', h1', hcs⟩ := base m' hs hr
            have hlt : off < cs.size := by
              rcases Nat.lt_or_ge off cells.length with h | h
              · omega
              · rw [List.getElem?_eq_none h] at hc; cases hc
            have hcell : w.cell? ⟨b, off, none⟩ = some cs[off] := by simp [World.cell?, hh, hlt]
            exact ⟨cs[off], run (by rw [hv]; exact run_loadVar_one hT ht hagg hcell), deg_vrel (hcs off _ cs[off] hc (by simp [hlt]))⟩
      · cases h1
    | ep cs off =>
      simp only at h1
      have base : ∀ (m' : Store), sat rs m' → ∀ {Γ : Ctx} {M : Nat → Nat → Prop} {Ow : Loc → Nat → Option Nat} {a : Act} {w : World}, Rel P Γ M Ow n m' a w →
          ∃ (b ob : Nat) (f : Nat → Value), a.eval p = .pointer (some ⟨b, ob + off, none⟩) ∧ (∀ j, j < cs.length → w.cell? ⟨b, ob + j, none⟩ = some (f j)) ∧ (∀ j, j < cs.length → (f j).oneCell' = true) ∧ (∀ j y, cs[j]? = some y → Rep w M y (f j)) := by
        intro m' hs Γ M Ow a w hr
        obtain ⟨q, hq⟩ := h4 m' hs P Γ M Ow n a w hr
        have hq : VRel w M (fun κ => Ow κ 0) (.ep cs off) (a.eval p) := hq
        cases hv : a.eval p with
        | pointer q' =>
          rw [hv] at hq
          cases hq with
          | ep _ _ b ob f c1 c2 c3 c4 => exact ⟨b, ob, f, rfl, c2, c3, c4⟩
        | _ => rw [hv] at hq; cases hq
      split at h1
      · rename_i hagg
        obtain ⟨h5, hoff⟩ := dropK_eq h1
        obtain ⟨h6, hsz⟩ := takeK_eq h5
        obtain rfl := Option.some.inj h6
        have hsz' : off + size ≤ cs.length := by simp at hsz; omega
        refine OSpec.val hd hdst h2 fun m' hs Γ M Ow a w hr => ?_
        obtain ⟨b, ob, f, hv, c2, c3, c4⟩ := base m' hs hr
        refine ⟨_, run (by
          rw [hv]
          refine run_loadVar_agg (cs := (List.range size).map fun j => f (off + j)) hT ht hagg (by simp) ?_
          intro j v hv'
          rw [List.getElem?_map] at hv'
          obtain ⟨j', hj', rfl⟩ := Option.map_eq_some_iff.1 hv'
          have : j < size ∧ j = j' := by
            rw [List.getElem?_range] at hj'
            · exact ⟨by rcases Nat.lt_or_ge j size with h | h; exact h; (exfalso; rw [List.getElem?_eq_none (by simpa using h)] at hv'; cases hv'), by simpa using hj'⟩
            · rcases Nat.lt_or_ge j size with h | h
              · exact h
              · exfalso; rw [List.getElem?_eq_none (by simpa using h)] at hv'; cases hv'
          obtain ⟨hj, rfl⟩ := this
          rw [Nat.add_assoc]; exact c2 (off + j) (by omega)), .tr _ _ (.ag _ _ ?_ ?_ ?_)⟩
        · simp; omega
        · intro i v hv'
          simp only [List.getElem?_toArray, List.getElem?_map] at hv'
          obtain ⟨j', hj', rfl⟩ := Option.map_eq_some_iff.1 hv'
          have : j' < size := by
            have := List.mem_of_getElem? hj'; simpa using this
          exact c3 _ (by omega)
        · intro i x v hx hv'
          simp only [List.getElem?_toArray, List.getElem?_map] at hv'
          obtain ⟨j', hj', rfl⟩ := Option.map_eq_some_iff.1 hv'
          have hj : i = j' ∧ i < size := by
            have hlt : i < size := by
              rcases Nat.lt_or_ge i size with h | h
              · exact h
              · exfalso; rw [List.getElem?_eq_none (by simpa using h)] at hj'; cases hj'
            rw [List.getElem?_range hlt] at hj'
            exact ⟨Option.some.inj hj', hlt⟩
          obtain ⟨rfl, hlt⟩ := hj
          rw [List.getElem?_take, if_pos hlt, List.getElem?_drop] at hx
          exact c4 (off + i) x hx
      · rename_i hagg
        obtain ⟨c, hc, h5⟩ := nthK_eq h1
        obtain rfl := Option.some.inj h5
        refine OSpec.val hd hdst h2 fun m' hs Γ M Ow a w hr => ?_
        obtain ⟨b, ob, f, hv, c2, c3, c4⟩ := base m' hs hr
        have hlt : off < cs.length := by
          rcases Nat.lt_or_ge off cs.length with h | h
          · exact h
          · rw [List.getElem?_eq_none h] at hc; cases hc
        exact ⟨f off, run (by rw [hv]; exact run_loadVar_one hT ht hagg (c2 off hlt)), .tr _ _ (c4 off c hc)⟩
    | _ => simp only at h1; cases h1
end
end Go.Lg

set_option linter.unusedVariables false
namespace Go.Lg
open Go Go.RowKit
section
variable {P : Program} {n : Nat} {tab : Tab} {m : Store} {r : R}
def storeK (t size : Nat) (κ : Loc) (off : Nat) (ty : TypeId) (cells : List AV) (rs : List (Loc × AV)) (v : AV) (rs2 : List (Loc × AV)) : Option R :=
  cellsK v fun vs => match Nat.beq vs.length size with
    | true => setK cells off vs fun cells' => some ([], (κ, .blk ty cells) :: (rs2 ++ rs), [(κ, .blk ty cells')])
    | false => none
def evStore (tab : Tab) (m : Store) (t : Nat) (p x : Operand) : Option R := match tlk tab t with
  | none => none
  | some ⟨size, _, kind, _⟩ => opK m p fun pv rs => match pv with
    | .ptr κ off => match lk m κ, κ.isL with
      | some (.blk ty cells), true => match x with
        | .tmp s => match lk m (.s s) with
          | some (.own e xs) => match Nat.beq size 1 with
            | true => setK cells off [.own e xs] fun cells' => some ([], (κ, .blk ty cells) :: (.s s, .own e xs) :: rs, [(κ, .blk ty cells'), (.s s, .tr (.ls xs))])
            | false => none
          | some (.raw e z xs) => match Nat.beq size 1 with
            | true => setK cells off [.raw e z xs] fun cells' => some ([], (κ, .blk ty cells) :: (.s s, .raw e z xs) :: rs, [(κ, .blk ty cells'), (.s s, .unk)])
            | false => none
          | some v => storeK t size κ off ty cells rs v [(.s s, v)]
          | none => none
        | .const (.slice none 0 0) => match kind with
          | .slice e => match tlk tab e, Nat.beq size 1 with
            | some _, true => setK cells off [.own e []] fun cells' => some ([], (κ, .blk ty cells) :: rs, [(κ, .blk ty cells')])
            | _, _ => none
          | _ => none
        | x => opK m x fun v rs2 => storeK t size κ off ty cells rs v rs2
      | _, _ => none
    | _ => none
theorem run_store_at {t b off : Nat} {d : TD} (hT : TabOk P tab) (ht : tlk tab t = some d) {w : World} {cs : Array Value} {ty : TypeId} {v : Value} (hh : w.heap[b]? = some (.cells cs ty (0, 0)))
    (hsz : v.cells.size = d.size) (hlen : off + d.size ≤ cs.size) (h1 : ∀ (i : Nat) (u : Value), v.cells[i]? = some u → u.oneCell' = true) :
    (Instr.storeAt t (.pointer (some ⟨b, off, none⟩)) v).run P w = .ok () (w.setRow b (cs.toList.take off ++ v.cells.toList ++ cs.toList.drop (off + v.cells.toList.length)).toArray) := by
  obtain ⟨i, hi, hs, _⟩ := hT.info ht
  have := run_storeCells_at (P := P) b off ty v.cells.toList 0 cs w hh (by simp; omega) (fun u hu => by
    obtain ⟨j, hj⟩ := List.mem_iff_getElem?.1 hu
    exact h1 j u (by simpa using hj))
  simp only [Nat.add_zero] at this
  simp [Instr.storeAt, Instr.sureAddr, storeVar, sizeOf, typeInfo, hi, hs, hsz, this]
theorem splice_at {α : Type} {xs vs : List α} {off i : Nat} (hlen : off + vs.length ≤ xs.length) :
    (xs.take off ++ vs ++ xs.drop (off + vs.length))[i]? = if i < off then xs[i]? else if i < off + vs.length then vs[i - off]? else xs[i]? := by
  have hto : (xs.take off).length = off := by simp; omega
  rw [List.append_assoc, List.getElem?_append]
  split
  · rename_i h; rw [if_pos (by omega), List.getElem?_take, if_pos (by omega)]
  · rename_i h
    rw [hto] at h ⊢
    rw [if_neg h, List.getElem?_append]
    split
    · rw [if_pos (by omega)]
    · rw [if_neg (by omega), List.getElem?_drop]; congr 1; omega
theorem Rel.write {Γ : Ctx} {M : Nat → Nat → Prop} {Ow : Loc → Nat → Option Nat} {a : Act} {w : World} (h : Rel P Γ M Ow n m a w) {κ : Loc} (hL : κ.isL = true) {ty : TypeId} {cells vs : List AV} (hl : lk m κ = some (.blk ty cells))
    {b off : Nat} (hb : Ow κ 0 = some b) {cs nv : Array Value} (hh : w.heap[b]? = some (.cells cs ty (0, 0))) (hs : cs.size = cells.length) (hlen : off + vs.length ≤ cells.length) (hnv : nv.size = vs.length)
    (h1 : ∀ (i : Nat) (u : Value), nv[i]? = some u → u.oneCell' = true) (hv : ∀ (i : Nat) (y : AV) (u : Value), vs[i]? = some y → nv[i]? = some u → SRel P w M Ow y u (Ow κ (off + i + 1))) :
    Rel P Γ M Ow n ((κ, .blk ty (cells.take off ++ vs ++ cells.drop (off + vs.length))) :: m) a (w.setRow b (cs.toList.take off ++ nv.toList ++ cs.toList.drop (off + nv.toList.length)).toArray) := by
  have hk := Loc.isL_blk hL
  obtain ⟨ty0, cells0, b0, cs0, e0, ho, hh0, hs0, hn, h10, hcs⟩ := h.blk κ _ hk hl
  obtain ⟨rfl, rfl⟩ : ty = ty0 ∧ cells = cells0 := by injection e0; exact ⟨‹_›, ‹_›⟩
  obtain rfl : b = b0 := by rw [hb] at ho; exact Option.some.inj ho
  obtain rfl : cs = cs0 := by rw [hh] at hh0; injection hh0 with hh0; injection hh0
  have hnl : nv.toList.length = vs.length := by simp [hnv]
  have hcl : off + nv.toList.length ≤ cs.toList.length := by simp; omega
  have at_ : ∀ {i : Nat} {u : Value}, (cs.toList.take off ++ nv.toList ++ cs.toList.drop (off + nv.toList.length)).toArray[i]? = some u →
      (¬ (off ≤ i ∧ i < off + vs.length) ∧ cs[i]? = some u) ∨ (off ≤ i ∧ i < off + vs.length ∧ nv[i - off]? = some u) := by
    intro i u hu
    rw [List.getElem?_toArray, splice_at hcl, hnl] at hu
    split at hu
    · exact .inl ⟨by omega, by rwa [Array.getElem?_toList] at hu⟩
    · split at hu
      · exact .inr ⟨by omega, by omega, by rwa [Array.getElem?_toList] at hu⟩
      · exact .inl ⟨by omega, by rwa [Array.getElem?_toList] at hu⟩
  refine h.setblk hL hl hb hh (setRow_heap w b cs _ ty (0, 0) hh) ?_ ?_ rfl rfl rfl (setRow_size ..) (fun c hc => setRow_other w b c _ hc) ?_ ?_
  · simp; omega
  · simp; omega
  · intro i u hu
    rcases at_ hu with ⟨_, h'⟩ | ⟨_, _, h'⟩
    · exact h10 i u h'
    · exact h1 _ u h'
  · intro i y u hy hu
    rw [splice_at hlen] at hy
    rcases at_ hu with ⟨hn, h'⟩ | ⟨h2, h3, h'⟩
    · have : cells[i]? = some y := by
        split at hy
        · exact hy
        · split at hy
          · exact absurd ⟨by omega, by omega⟩ hn
          · exact hy
      exact hcs i y u this h'
    · rw [if_neg (by omega), if_pos h3] at hy
      have := hv (i - off) y u hy h'
      have e : off + (i - off) + 1 = i + 1 := by omega
      rwa [e] at this
theorem Rel.givecell {Γ : Ctx} {M : Nat → Nat → Prop} {Ow : Loc → Nat → Option Nat} {a : Act} {w : World} (h : Rel P Γ M Ow n m a w) {κ : Loc} (hL : κ.isL = true) {ty : TypeId} {cells : List AV} (hl : lk m κ = some (.blk ty cells))
    {s : Nat} {x : AV} (hxo : x.isOwn = true) (hx : lk m (.s s) = some x) {b off : Nat} (hb : Ow κ 0 = some b) {cs : Array Value} (hh : w.heap[b]? = some (.cells cs ty (0, 0))) (hs : cs.size = cells.length) (hlen : off + 1 ≤ cells.length)
    (h1 : (a.tmps.getD s undef).oneCell' = true) :
    RelX P Γ n ((κ, .blk ty (cells.take off ++ [x] ++ cells.drop (off + 1))) :: (.s s, x.deg) :: m) a (w.setRow b (cs.toList.take off ++ [a.tmps.getD s undef] ++ cs.toList.drop (off + 1)).toArray) := by
  have hv : SRel P w M Ow x (a.tmps.getD s undef) (Ow (.s s) 0) := h.slot s _ hx
  have hdg : ∀ o, SRel P w M Ow x.deg (a.tmps.getD s undef) o := fun o => srel_of (deg_vrel hv) o
  have hk := Loc.isL_blk hL
  have hne : κ ≠ .s s := fun e' => by rw [e'] at hk; cases hk
  have hval : isVal κ (off + 1) = true := by cases κ <;> first | rfl | cases hk
  -- the old cell: nobody asks for it
  obtain ⟨ty0, cells0, b0, cs0, e0, ho, hh0, hs0, hn, h10, hcs⟩ := h.blk κ _ hk hl
  obtain ⟨rfl, rfl⟩ : ty = ty0 ∧ cells = cells0 := by injection e0; exact ⟨‹_›, ‹_›⟩
  obtain rfl : b = b0 := by rw [hb] at ho; exact Option.some.inj ho
  obtain rfl : cs = cs0 := by rw [hh] at hh0; injection hh0 with hh0; injection hh0
  have h2 := h.labelblk (κ := κ) hk (v' := .blk ty (cells.set off .unk)) ⟨ty, _, b, cs, rfl, hb, hh, by simp [hs], hn, h10, by
    intro i y u hy hu
    rw [List.getElem?_set] at hy
    split at hy
    · split at hy
      · obtain rfl := Option.some.inj hy; exact VRel.unk _
      · cases hy
    · exact hcs i y u hy hu⟩
  have h3 := h2.label (t := s) (v' := x.deg) (hdg _)
  have h4 := h3.setOw (l := .s s) (i := 0) rfl none (fun b hb => by cases hb) (fun t v e hv' => by
    obtain rfl : s = t := by injection e
    rw [lk_self] at hv'; obtain rfl := Option.some.inj hv'; exact hdg _) (fun _ _ _ _ _ _ _ e => by cases e)
  have h5 := h4.setOw (l := κ) (i := off + 1) hval (Ow (.s s) 0) (by
    intro c hc
    refine ⟨fun l i e' => ?_, h.lt _ _ _ hc, h.mineL (fun j e => by cases e) hc⟩
    by_cases e2 : l = .s s ∧ i = 0
    · obtain ⟨rfl, rfl⟩ := e2; rw [setO_self] at e'; cases e'
    · rw [setO_ne _ e2] at e'; exact absurd (h.inj _ _ _ _ _ e' hc) e2) (fun t v e' => by rw [e'] at hk; cases hk) (by
    intro ty' cells' j b' cs' y v _ hlk hj hy hb' hh' hv'
    have hlk' : lk ((Loc.s s, x.deg) :: (κ, AV.blk ty (cells.set off AV.unk)) :: m) κ = some (.blk ty (cells.set off .unk)) := by
      rw [lk_ne _ _ (fun e => hne e.symm), lk_self]
    rw [hlk'] at hlk
    obtain ⟨rfl, rfl⟩ : ty = ty' ∧ cells.set off .unk = cells' := by injection hlk with hlk; injection hlk; exact ⟨‹_›, ‹_›⟩
    obtain rfl : off = j := by omega
    rw [List.getElem?_set_self (by omega)] at hy
    obtain rfl := Option.some.inj hy
    exact VRel.unk _)
  have hb5 : setO (setO Ow (.s s) 0 none) κ (off + 1) (Ow (.s s) 0) κ 0 = some b := by
    rw [setO_ne _ (fun e => by omega), setO_ne _ (fun e => hne e.1)]; exact hb
  have h6 := h5.write (κ := κ) hL (vs := [x]) (cells := cells.set off .unk) (by rw [lk_ne _ _ (fun e => hne e.symm), lk_self]) (off := off) hb5 hh (by simp [hs]) (by simpa using hlen) (nv := #[a.tmps.getD s undef]) rfl
    (by intro i u hu; cases i with
        | zero => simp at hu; subst hu; simpa using h1
        | succ i => simp at hu)
    (by intro i y u hy hu; cases i with
        | zero =>
          simp at hy hu; subst hy; subst hu
          rw [show off + 0 + 1 = off + 1 from rfl, setO_self, ← Array.getD_eq_getD_getElem?]
          exact own_any hxo hv
        | succ i => simp at hu)
  refine ⟨M, setO (setO Ow (.s s) 0 none) κ (off + 1) (Ow (.s s) 0), ?_⟩
  have e1 : (cells.set off AV.unk).take off = cells.take off := by rw [List.take_set_of_le (Nat.le_refl _)]
  have e2 : (cells.set off AV.unk).drop (off + 1) = cells.drop (off + 1) := by rw [List.drop_set_of_lt (Nat.lt_succ_self _)]
  simp only [List.length_cons, List.length_nil, Nat.zero_add, e1, e2] at h6
  refine h6.sub fun l v hl' => ?_
  rw [lk_cons] at hl' ⊢
  split
  · rename_i e; rw [if_pos e] at hl'; exact hl'
  · rename_i e
    rw [if_neg e] at hl'
    rw [lk_cons] at hl' ⊢
    split
    · rename_i e3; rw [if_pos e3] at hl'; exact hl'
    · rename_i e3
      rw [if_neg e3] at hl'
      rw [lk_ne _ _ e]; exact hl'
theorem evStore_ok {o : Oper} {t : Nat} {p x : Operand} (hT : TabOk P tab) (hdst : o.dst = none) (hop : ∀ (ρ : Operand → Value), execOp ρ o = (do Instr.storeAt t (ρ p) (ρ x); pure .skip)) (h : evStore tab m t p x = some r) : OSpec P n o m r := by
  unfold evStore at h
  split at h
  · cases h
  · rename_i size bytes kind zero ht
    obtain ⟨pv, rs, h1, h2, h3, h4⟩ := opK_eq h
    have run : ∀ {a : Act} {w w' : World}, (Instr.storeAt t (a.eval p) (a.eval x)).run P w = .ok () w' → (execOp a.eval o).run P w = .ok .skip w' := by
      intro a w w' hv; rw [hop]; simp [hv]
    split at h1
    · rename_i κ off
      split at h1
      · rename_i ty cells hκ hL
        have base : ∀ (m' : Store), lk m' κ = some (.blk ty cells) → sat rs m' → ∀ {Γ : Ctx} {M : Nat → Nat → Prop} {Ow : Loc → Nat → Option Nat} {a : Act} {w : World}, Rel P Γ M Ow n m' a w →
            ∃ b cs, κ.isBlk = true ∧ Ow κ 0 = some b ∧ a.eval p = .pointer (some ⟨b, off, none⟩) ∧ w.heap[b]? = some (.cells cs ty (0, 0)) ∧ cs.size = cells.length := by
          intro m' hκ' hs Γ M Ow a w hr
          obtain ⟨q, hq⟩ := h4 m' hs P Γ M Ow n a w hr
          obtain ⟨b, hk, hb, hv⟩ := opK_ptr (Γ := Γ) (rs := rs) (v := .ptr κ off) hq
          obtain ⟨ty0, cells0, b0, cs, e0, ho, hh, hs', hn, h1, hcs⟩ := hr.blk κ _ hk hκ'
          obtain ⟨rfl, rfl⟩ : ty = ty0 ∧ cells = cells0 := by injection e0; exact ⟨‹_›, ‹_›⟩
          obtain rfl : b = b0 := by rw [hb] at ho; exact Option.some.inj ho
          exact ⟨b, cs, hk, hb, hv, hh, hs'⟩
        have gen : ∀ {v : AV} {rs2 : List (Loc × AV)}, storeK t size κ off ty cells rs v rs2 = some r → sat rs2 m → (∀ (m' : Store), sat rs2 m' → ∀ (P : Program) (Γ : Ctx) (M : Nat → Nat → Prop) (Ow : Loc → Nat → Option Nat) (n : Nat) (a : Act) (w : World), Rel P Γ M Ow n m' a w → ∃ o, SRel P w M Ow v (a.eval x) o) → OSpec P n o m r := by
          intro v rs2 hk hs2 hv2
          obtain ⟨vs, h5, hc, _⟩ := cellsK_eq hk
          split at h5
          · rename_i hlen
            obtain ⟨h6, hl⟩ := setK_eq h5
            obtain rfl := Option.some.inj h6
            have hlen : vs.length = size := Nat.eq_of_beq_eq_true hlen
            refine ⟨⟨hκ, sat_app.2 ⟨hs2, h2⟩⟩, fun m' hs _ => OAct.of_skip fun Γ M Ow a w hr => ?_⟩
            obtain ⟨s1, s2⟩ := sat_app.1 hs.2
            obtain ⟨b, cs, hkb, hb, hv, hh, hs'⟩ := base m' hs.1 s2 hr
            obtain ⟨q, hq⟩ := hv2 m' s1 P Γ M Ow n a w hr
            obtain ⟨c1, c2, c3⟩ := hc P w M Ow q _ hq
            refine ⟨_, run (by rw [hv]; exact run_store_at hT ht hh (by rw [c1, hlen]) (by simp; omega) c2), ?_⟩
            rw [hdst]
            exact ⟨M, Ow, hr.write hL hs.1 hb hh hs' hl c1 c2 (fun i y u hy hu => srel_of (c3 i y u hy hu) _)⟩
          · cases h5
        split at h1
        · rename_i s
          split at h1
          · rename_i e xs hx
            split at h1
            · rename_i hsz
              obtain ⟨h6, hl⟩ := setK_eq h1
              obtain rfl := Option.some.inj h6
              obtain rfl : size = 1 := Nat.eq_of_beq_eq_true hsz
              refine ⟨⟨hκ, hx, h2⟩, fun m' hs _ => OAct.of_skip fun Γ M Ow a w hr => ?_⟩
              obtain ⟨b, cs, hkb, hb, hv, hh, hs'⟩ := base m' hs.1 hs.2.2 hr
              have hown := hr.slot s _ hs.2.1
              have ho1 : (a.tmps.getD s undef).oneCell' = true := by
                have := deg_vrel hown
                generalize a.tmps.getD s undef = q at this
                cases this with
                | tr _ _ h => cases h <;> rfl
              have hcl : (a.tmps.getD s undef).cells = #[a.tmps.getD s undef] := one_cells ho1
              have hst := run_store_at (off := off) hT ht hh (v := a.tmps.getD s undef) (by rw [hcl]; rfl) (by simp at hl ⊢; omega) (by
                intro i u hu
                rw [hcl] at hu
                cases i with
                | zero => simp at hu; subst hu; simpa using ho1
                | succ i => simp at hu)
              refine ⟨_, run (by rw [hv]; exact hst), ?_⟩
              rw [hdst]
              have := hr.givecell hL hs.1 (x := .own e xs) rfl hs.2.1 (off := off) hb hh hs' (by simpa using hl) ho1
              show RelX P Γ n _ a _
              simp only [hcl]
              exact this
            · cases h1
          · rename_i e z xs hx
            split at h1
            · rename_i hsz
              obtain ⟨h6, hl⟩ := setK_eq h1
              obtain rfl := Option.some.inj h6
              obtain rfl : size = 1 := Nat.eq_of_beq_eq_true hsz
              refine ⟨⟨hκ, hx, h2⟩, fun m' hs _ => OAct.of_skip fun Γ M Ow a w hr => ?_⟩
              obtain ⟨b, cs, hkb, hb, hv, hh, hs'⟩ := base m' hs.1 hs.2.2 hr
              have hown := hr.slot s _ hs.2.1
              have ho1 : (a.tmps.getD s undef).oneCell' = true := by
                obtain ⟨_, _, _, ⟨_, _, h⟩ | ⟨_, _, _, _, _, h, _⟩⟩ := hown
                · rw [h]; rfl
                · rw [h]; rfl
              have hcl : (a.tmps.getD s undef).cells = #[a.tmps.getD s undef] := one_cells ho1
              have hst := run_store_at (off := off) hT ht hh (v := a.tmps.getD s undef) (by rw [hcl]; rfl) (by simp at hl ⊢; omega) (by
                intro i u hu
                rw [hcl] at hu
                cases i with
                | zero => simp at hu; subst hu; simpa using ho1
                | succ i => simp at hu)
              refine ⟨_, run (by rw [hv]; exact hst), ?_⟩
              rw [hdst]
              have := hr.givecell hL hs.1 (x := .raw e z xs) rfl hs.2.1 (off := off) hb hh hs' (by simpa using hl) ho1
              show RelX P Γ n _ a _
              simp only [hcl]
              exact this
            · cases h1
          · rename_i v hno hno2 hx
            exact gen h1 ⟨hx, trivial⟩ (fun m' hs P Γ M Ow n a w hr => ⟨_, hr.slot s v hs.1⟩)
          · cases h1
        · split at h1
          · rename_i e
            split at h1
            · rename_i de he hsz
              obtain ⟨h6, hl⟩ := setK_eq h1
              obtain rfl := Option.some.inj h6
              obtain rfl : size = 1 := Nat.eq_of_beq_eq_true hsz
              obtain ⟨i, hi, _⟩ := hT.info he
              refine ⟨⟨hκ, h2⟩, fun m' hs _ => OAct.of_skip fun Γ M Ow a w hr => ?_⟩
              obtain ⟨b, cs, hkb, hb, hv, hh, hs'⟩ := base m' hs.1 hs.2 hr
              have hst := run_store_at (off := off) hT ht hh (v := .slice none 0 0) rfl (by simp at hl ⊢; omega) (by
                intro i u hu
                cases i with
                | zero => simp [Value.cells] at hu; subst hu; rfl
                | succ i => simp [Value.cells] at hu)
              refine ⟨_, run (by rw [hv]; exact hst), ?_⟩
              rw [hdst]
              refine ⟨M, Ow, hr.write hL hs.1 hb hh hs' hl (nv := #[.slice none 0 0]) rfl ?_ ?_⟩
              · intro i u hu
                cases i with
                | zero => simp at hu; subst hu; rfl
                | succ i => simp at hu
              · intro j y u hy hu
                cases j with
                | zero =>
                  simp at hy hu; subst hy; subst hu
                  exact ⟨i, hi, (fun x hx => by cases hx), .inl ⟨rfl, none, rfl⟩⟩
                | succ j => simp at hu
            · cases h1
          · cases h1
        · obtain ⟨v, rs2, k1, k2, _, k4⟩ := opK_eq h1
          exact gen k1 k2 k4
      · cases h1
    · cases h1
end
end Go.Lg

set_option linter.unusedVariables false
set_option linter.unusedSimpArgs false
namespace Go.Lg
open Go Go.RowKit
section
variable {P : Program} {n : Nat} {tab : Tab} {m : Store} {r : R}
def evFieldAddr (tab : Tab) (m : Store) (d s : Nat) (p : Operand) (f : Nat) : Option R := match tlk tab s with
  | some ⟨_, _, .struct fl, _⟩ => nthK (fun q => match q with
    | (off, sz + 1) => opK m p fun pv rs => match pv with
      | .ptr κ o => some ([], rs, [(.s d, .ptr κ (o + off))])
      | .ep cs o => some ([], rs, [(.s d, .ep cs (o + off))])
      | _ => none
    | _ => none) fl f
  | _ => none
theorem evFieldAddr_ok {o : Oper} {d s f : Nat} {p : Operand} (hT : TabOk P tab) (hd : d < n) (hdst : o.dst = some d) (hop : ∀ (ρ : Operand → Value), execOp ρ o = (do pure (.value (← Instr.fieldAt s (ρ p) f)))) (h : evFieldAddr tab m d s p f = some r) : OSpec P n o m r := by
  unfold evFieldAddr at h
  split at h
  · rename_i sz by' fl zs ht
    obtain ⟨fs, hu, hfl, _⟩ := hT.struct ht rfl
    obtain ⟨c, hc, h1⟩ := nthK_eq h
    split at h1
    · rename_i off sz'
      obtain ⟨v, rs, h2, h3, hrf, h4⟩ := opK_eq h1
      rw [hfl, List.getElem?_map] at hc
      obtain ⟨fd, hfd, hq⟩ := Option.map_eq_some_iff.1 hc
      obtain ⟨hq1, hq2⟩ := Prod.mk.inj hq
      have hfd' : fs[f]? = some fd := by simpa using hfd
      have hsz : ∃ i, P.info? fd.type = some i ∧ i.size ≠ 0 := by
        unfold Program.cellsOf at hq2
        cases hi : P.info? fd.type with
        | none => rw [hi] at hq2; simp at hq2
        | some i => rw [hi] at hq2; exact ⟨i, rfl, by simp at hq2; omega⟩
      obtain ⟨i, hi, hi0⟩ := hsz
      have run : ∀ {w : World} {b k : Nat}, (Instr.fieldAt s (.pointer (some ⟨b, k, none⟩)) f).run P w = .ok (.pointer (some ⟨b, k + off, none⟩)) w := by
        intro w b k
        simp [Instr.fieldAt, run_underlying hu, hfd', Instr.sureAddr, fieldPlace, sizeOf, typeInfo, hi, hi0, add_lit, hq1]
      split at h2
      · rename_i κ k
        obtain rfl := Option.some.inj h2
        refine OSpec.val hd hdst h3 fun m' hs Γ M Ow a w hr => ?_
        obtain ⟨q, hq⟩ := h4 m' hs P Γ M Ow n a w hr
        obtain ⟨b, hk, hb, hv⟩ := opK_ptr (Γ := Γ) (rs := rs) (v := .ptr κ k) hq
        exact ⟨_, by rw [hop, hv]; simp [run], .ptr κ _ b hk hb⟩
      · rename_i cs k
        obtain rfl := Option.some.inj h2
        refine OSpec.val hd hdst h3 fun m' hs Γ M Ow a w hr => ?_
        obtain ⟨q, hq⟩ := h4 m' hs P Γ M Ow n a w hr
        have hq : VRel w M (fun κ => Ow κ 0) (.ep cs k) (a.eval p) := hq
        cases hv : a.eval p with
        | pointer q' =>
          rw [hv] at hq
          cases hq with
          | ep _ _ b ob f c1 c2 c3 c4 => exact ⟨.pointer (some ⟨b, ob + (k + off), none⟩), by rw [hop, hv]; simp [run, Nat.add_assoc], .ep cs (k + off) b ob f c1 c2 c3 c4⟩
        | _ => rw [hv] at hq; cases hq
      · cases h2
    · cases h1
  · cases h
def evExtract (m : Store) (d : Nat) (x : Operand) (i : Nat) : Option R := opK m x fun v rs => match v with
  | .tup xs => nthK (fun v => nd v fun v' => some ([], rs, [(.s d, v')])) xs i
  | _ => none
theorem evExtract_ok {o : Oper} {d i : Nat} {x : Operand} (hd : d < n) (hdst : o.dst = some d) (hop : ∀ (ρ : Operand → Value), execOp ρ o = (do pure (.value (← Instr.extract (ρ x) i)))) (h : evExtract m d x i = some r) : OSpec P n o m r := by
  obtain ⟨v, rs, h2, h3, hrf, h4⟩ := opK_eq h
  split at h2
  · rename_i xs
    obtain ⟨c, hc, h1⟩ := nthK_eq h2
    have h5 := nd_eq h1
    obtain rfl := Option.some.inj h5
    refine OSpec.val hd hdst h3 fun m' hs Γ M Ow a w hr => ?_
    obtain ⟨q, hq⟩ := h4 m' hs P Γ M Ow n a w hr
    have hq : VRel w M (fun κ => Ow κ 0) (.tup xs) (a.eval x) := hq
    cases hv : a.eval x with
    | tuple cs =>
      rw [hv] at hq
      cases hq with
      | tup _ _ hsz hall =>
        have hlt : i < cs.size := by
          rw [hsz]
          rcases Nat.lt_or_ge i xs.length with h | h
          · exact h
          · rw [List.getElem?_eq_none h] at hc; cases hc
        have hci : cs[i]? = some cs[i] := by simp [hlt]
        exact ⟨cs[i], by rw [hop, hv]; simp [Instr.extract, hci], deg_vrel (P := P) (srel_of (hall i c _ hc hci) none)⟩
    | _ => rw [hv] at hq; cases hq
  · cases h2
def opsK (m : Store) : List Operand → (List AV → List (Loc × AV) → Option R) → Option R
  | [], k => k [] []
  | x :: xs, k => opK m x fun v rs => nd v fun v' => opsK m xs fun vs rs' => k (v' :: vs) (rs ++ rs')
theorem opsK_eq : ∀ {xs : List Operand} {k : List AV → List (Loc × AV) → Option R}, opsK m xs k = some r → ∃ vs rs, k vs rs = some r ∧ vs.length = xs.length ∧ sat rs m ∧
    ∀ (m' : Store), sat rs m' → ∀ (P : Program) (Γ : Ctx) (M : Nat → Nat → Prop) (Ow : Loc → Nat → Option Nat) (n : Nat) (a : Act) (w : World), Rel P Γ M Ow n m' a w → ∀ (i : Nat) (y : AV) (x : Operand), vs[i]? = some y → xs[i]? = some x → VRel w M (fun κ => Ow κ 0) y (a.eval x)
  | [], k, h => ⟨[], [], h, rfl, trivial, fun m' _ P Γ M Ow n a w hr i y x hy => by simp at hy⟩
  | x :: xs, k, h => by
    obtain ⟨v, rs, h2, h3, _, h4⟩ := opK_eq h
    have h5 := nd_eq h2
    obtain ⟨vs, rs', h6, h7, h8, h9⟩ := opsK_eq h5
    refine ⟨v.deg :: vs, rs ++ rs', h6, by simp [h7], sat_app.2 ⟨h3, h8⟩, fun m' hs P Γ M Ow n a w hr i y u hy hu => ?_⟩
    obtain ⟨s1, s2⟩ := sat_app.1 hs
    cases i with
    | zero =>
      simp at hy hu; subst hy; subst hu
      obtain ⟨q, hq⟩ := h4 m' s1 P Γ M Ow n a w hr
      exact deg_vrel hq
    | succ i => exact h9 m' s2 P Γ M Ow n a w hr i y u (by simpa using hy) (by simpa using hu)
def evFunc (m : Store) (d f : Nat) (caps : List Operand) : Option R := opsK m caps fun vs rs => some ([], rs, [(.s d, .fn f vs)])
theorem evFunc_ok {o : Oper} {d f : Nat} {caps : Array Operand} (hd : d < n) (hdst : o.dst = some d) (hop : ∀ (ρ : Operand → Value), execOp ρ o = (do pure (.value (← Instr.makeFunc (.func f) #[] (caps.map ρ))))) (h : evFunc m d f caps.toList = some r) : OSpec P n o m r := by
  obtain ⟨vs, rs, h1, h2, h3, h4⟩ := opsK_eq h
  obtain rfl := Option.some.inj h1
  refine OSpec.val hd hdst h3 fun m' hs Γ M Ow a w hr => ?_
  refine ⟨_, by rw [hop]; rfl, .fn f vs _ (by simp [h2]) ?_⟩
  intro i y u hy hu
  rw [Array.getElem?_map] at hu
  obtain ⟨x, hx, rfl⟩ := Option.map_eq_some_iff.1 hu
  exact h4 m' hs P Γ M Ow n a w hr i y x hy (by simpa using hx)
def scK (v : AV) (k : Value → Option R) : Option R := match v with
  | .tr (.sc c) => k c
  | _ => none
theorem sc_eval {x : Operand} {c : Value} {Γ : Ctx} {M : Nat → Nat → Prop} {Ow : Loc → Nat → Option Nat} {a : Act} {w : World} {q : Option Nat} (h : SRel P w M Ow (.tr (.sc c)) (a.eval x) q) : a.eval x = c ∧ c.oneCell' = true := by
  have h : VRel w M (fun κ => Ow κ 0) (.tr (.sc c)) (a.eval x) := h
  generalize a.eval x = v at h
  cases h with
  | tr _ _ h => cases h with
    | sc _ h => exact ⟨rfl, h⟩
theorem scK_eq {v : AV} {k : Value → Option R} (h : scK v k = some r) : ∃ c, v = .tr (.sc c) ∧ k c = some r := by
  unfold scK at h
  split at h
  · exact ⟨_, rfl, h⟩
  · cases h
def binI (op : BinOp) (k : IntKind) (a b : Int) : Option Value := match op with
  | .add => some (.int k (k.wrap (a + b)))
  | .sub => some (.int k (k.wrap (a - b)))
  | .mul => some (.int k (k.wrap (a * b)))
  | .eql => some (.bool (a == b))
  | .neq => some (.bool (a != b))
  | .lss => some (.bool (decide (a < b)))
  | .leq => some (.bool (decide (a ≤ b)))
  | .gtr => some (.bool (decide (a > b)))
  | .geq => some (.bool (decide (a ≥ b)))
  | _ => none
def binS (op : BinOp) (a b : ByteArray) : Option Value := match op with
  | .eql => some (.bool (a.toList == b.toList))
  | .neq => some (.bool !(a.toList == b.toList))
  | _ => none
def binV (tab : Tab) (op : BinOp) (t : Nat) (x y : Value) : Option Value := match x, y with
  | .int k a, .int k' b => match decide (k = k') with
    | true => binI op k a b
    | false => none
  | .string a, .string b => binS op a b
  | .bool a, .bool b => match tlk tab t with
    | some ⟨_, _, .bool, _⟩ => match op with
      | .eql => some (.bool (a == b))
      | .neq => some (.bool !(a == b))
      | _ => none
    | _ => none
  | _, _ => none
theorem eq_bool {t d : Nat} (hu : P.underlying t = some .bool) (a b : Bool) (w : World) : (Op.equalIn (d + 1) t (.bool a) (.bool b)).run P w = .ok (a == b) w := by
  simp [Op.equalIn, run_underlying hu]
theorem eq_bool' {t : Nat} (hu : P.underlying t = some .bool) (a b : Bool) (w : World) : (Op.equal t (.bool a) (.bool b)).run P w = .ok (a == b) w := eq_bool (d := 9999) hu a b w
theorem binV_ok (hT : TabOk P tab) {op : BinOp} {t : Nat} {x y v : Value} (h : binV tab op t x y = some v) (ox oy : Operand) (w : World) :
    (do eqGuard op t ox oy x y; binOp op t x y : Sem Value).run P w = .ok v w ∧ v.oneCell' = true := by
  unfold binV at h
  split at h
  · rename_i k a k' b
    split at h
    · rename_i hk
      obtain rfl : k = k' := of_decide_eq_true hk
      unfold binI at h
      split at h <;> first
        | (obtain rfl := Option.some.inj h
           refine ⟨?_, rfl⟩
           simp [eqGuard, binOp, Op.intArith, Op.intCmp, Sem.run])
        | cases h
    · cases h
  · rename_i a b
    unfold binS at h
    split at h <;> first
      | (obtain rfl := Option.some.inj h
         refine ⟨?_, rfl⟩
         simp [eqGuard, binOp, Op.stringOp, Sem.run])
      | cases h
  · rename_i a b
    split at h
    · rename_i ht
      have hu := hT.bool ht rfl
      split at h
      · obtain rfl := Option.some.inj h
        refine ⟨?_, rfl⟩
        simp [eqGuard, binOp, eq_bool' hu]
      · obtain rfl := Option.some.inj h
        refine ⟨?_, rfl⟩
        simp [eqGuard, binOp, eq_bool' hu]
      · cases h
    · cases h
  · cases h
def evBin (tab : Tab) (m : Store) (d : Nat) (op : BinOp) (t : Nat) (x y : Operand) : Option R := opK m x fun v rs => scK v fun c => opK m y fun v' rs' => scK v' fun c' => match binV tab op t c c' with
  | some u => some ([], rs ++ rs', [(.s d, .tr (.sc u))])
  | none => none
theorem evBin_ok {o : Oper} {d t : Nat} {op : BinOp} {x y : Operand} (hT : TabOk P tab) (hd : d < n) (hdst : o.dst = some d) (hop : ∀ (ρ : Operand → Value), execOp ρ o = (do pure (.value (← (do eqGuard op t x y (ρ x) (ρ y); binOp op t (ρ x) (ρ y)))))) (h : evBin tab m d op t x y = some r) : OSpec P n o m r := by
  obtain ⟨v, rs, h2, h3, _, h4⟩ := opK_eq h
  obtain ⟨c, rfl, h5⟩ := scK_eq h2
  obtain ⟨v', rs', h6, h7, _, h8⟩ := opK_eq h5
  obtain ⟨c', rfl, h9⟩ := scK_eq h6
  split at h9
  · rename_i u hu
    obtain rfl := Option.some.inj h9
    refine OSpec.val hd hdst (sat_app.2 ⟨h3, h7⟩) fun m' hs Γ M Ow a w hr => ?_
    obtain ⟨s1, s2⟩ := sat_app.1 hs
    obtain ⟨q, hq⟩ := h4 m' s1 P Γ M Ow n a w hr
    obtain ⟨q', hq'⟩ := h8 m' s2 P Γ M Ow n a w hr
    have e1 := (sc_eval (Γ := Γ) hq).1
    have e2 := (sc_eval (Γ := Γ) hq').1
    obtain ⟨b1, b2⟩ := binV_ok hT hu x y w
    exact ⟨u, by rw [hop, e1, e2]; rw [Sem.run_bind, b1]; rfl, .tr _ _ (.sc _ b2)⟩
  · cases h9
def evUn (m : Store) (d : Nat) (op : UnOp) (x : Operand) : Option R := opK m x fun v rs => scK v fun c => match op, c with
  | .not, .bool b => some ([], rs, [(.s d, .tr (.sc (.bool !b)))])
  | .neg, .int k a => some ([], rs, [(.s d, .tr (.sc (.int k (k.wrap (0 - a)))))])
  | _, _ => none
theorem evUn_ok {o : Oper} {d : Nat} {op : UnOp} {x : Operand} (hd : d < n) (hdst : o.dst = some d) (hop : ∀ (ρ : Operand → Value), execOp ρ o = (do pure (.value (← Op.unary op (ρ x))))) (h : evUn m d op x = some r) : OSpec P n o m r := by
  obtain ⟨v, rs, h2, h3, _, h4⟩ := opK_eq h
  obtain ⟨c, rfl, h5⟩ := scK_eq h2
  split at h5
  · obtain rfl := Option.some.inj h5
    refine OSpec.val hd hdst h3 fun m' hs Γ M Ow a w hr => ?_
    obtain ⟨q, hq⟩ := h4 m' hs P Γ M Ow n a w hr
    exact ⟨_, by rw [hop, (sc_eval (Γ := Γ) hq).1]; simp [Op.unary], .tr _ _ (.sc _ rfl)⟩
  · obtain rfl := Option.some.inj h5
    refine OSpec.val hd hdst h3 fun m' hs Γ M Ow a w hr => ?_
    obtain ⟨q, hq⟩ := h4 m' hs P Γ M Ow n a w hr
    exact ⟨_, by rw [hop, (sc_eval (Γ := Γ) hq).1]; simp [Op.unary, Op.intArith], .tr _ _ (.sc _ rfl)⟩
  · cases h5
end
end Go.Lg

set_option linter.unusedVariables false
set_option linter.unusedSimpArgs false
namespace Go.Lg
open Go Go.RowKit
section
variable {P : Program} {n : Nat} {tab : Tab} {m : Store} {r : R}
def PFit (P : Program) (w : World) (M : Nat → Nat → Prop) (Ow : Loc → Nat → Option Nat) (cells : List AV) (carr : Array Value) : Prop :=
  carr.size = cells.length ∧ (∀ (i : Nat) (u : Value), carr[i]? = some u → u.oneCell' = true) ∧ ∀ (i : Nat) (y : AV) (u : Value), cells[i]? = some y → carr[i]? = some u → SRel P w M Ow y u none
theorem fold_at (off : Nat) : ∀ (l : List Value) (k : Nat) (cs : Array Value), off + k + l.length ≤ cs.size →
    ((l.zipIdx k).foldl (fun (cs : Array Value) (p : Value × Nat) => cs.setIfInBounds (off + p.2) p.1) cs).size = cs.size ∧
    ∀ i, ((l.zipIdx k).foldl (fun (cs : Array Value) (p : Value × Nat) => cs.setIfInBounds (off + p.2) p.1) cs)[i]? = if off + k ≤ i ∧ i < off + k + l.length then l[i - (off + k)]? else cs[i]?
  | [], k, cs, h => ⟨rfl, fun i => by simp; intro h1 h2; omega⟩
  | v :: l, k, cs, h => by
    simp only [List.length_cons] at h
    obtain ⟨h1, h2⟩ := fold_at off l (k + 1) (cs.setIfInBounds (off + k) v) (by simp; omega)
    simp only [List.zipIdx_cons, List.foldl_cons]
    refine ⟨by rw [h1]; simp, fun i => ?_⟩
    rw [h2, Array.getElem?_setIfInBounds]
    simp only [List.length_cons]
    by_cases e : i = off + k
    · subst e
      rw [if_neg (by omega), if_pos rfl, if_pos (by omega), if_pos (by omega)]
      simp
    · by_cases e2 : off + k ≤ i ∧ i < off + k + (l.length + 1)
      · rw [if_pos (by omega), if_pos e2]
        obtain ⟨j, hj⟩ : ∃ j, i - (off + k) = j + 1 := ⟨i - (off + k) - 1, by omega⟩
        rw [hj, show i - (off + (k + 1)) = j by omega]; simp
      · rw [if_neg (by omega), if_neg (by omega), if_neg e2]
theorem PFit.set {w : World} {M : Nat → Nat → Prop} {Ow : Loc → Nat → Option Nat} {cells vs : List AV} {carr nv : Array Value} (h : PFit P w M Ow cells carr) {off : Nat} (hlen : off + vs.length ≤ cells.length) (hnv : nv.size = vs.length)
    (h1 : ∀ (i : Nat) (u : Value), nv[i]? = some u → u.oneCell' = true) (hv : ∀ (i : Nat) (y : AV) (u : Value), vs[i]? = some y → nv[i]? = some u → VRel w M (fun κ => Ow κ 0) y u) :
    PFit P w M Ow (cells.take off ++ vs ++ cells.drop (off + vs.length)) (nv.zipIdx.foldl (fun cs (c, j) => cs.setIfInBounds (off + j) c) carr) := by
  obtain ⟨p1, p2, p3⟩ := h
  have e : nv.zipIdx.foldl (fun cs (c, j) => cs.setIfInBounds (off + j) c) carr = (nv.toList.zipIdx 0).foldl (fun (cs : Array Value) (p : Value × Nat) => cs.setIfInBounds (off + p.2) p.1) carr := by
    rw [← Array.foldl_toList, Array.toList_zipIdx]
  obtain ⟨f1, f2⟩ := fold_at off nv.toList 0 carr (by simp; omega)
  rw [e]
  refine ⟨by rw [f1, p1]; simp; omega, ?_, ?_⟩
  · intro i u hu
    rw [f2] at hu
    split at hu
    · exact h1 _ u (by rwa [Array.getElem?_toList] at hu)
    · exact p2 i u hu
  · intro i y u hy hu
    rw [f2] at hu
    rw [splice_at hlen] at hy
    have hl : nv.toList.length = vs.length := by simp [hnv]
    rw [hl] at hu
    split at hu
    · rename_i hi
      rw [if_neg (by omega), if_pos (by omega)] at hy
      exact srel_of (hv (i - off) y u hy (by rw [Array.getElem?_toList] at hu; simpa using hu)) none
    · rename_i hi
      refine p3 i y u ?_ hu
      split at hy
      · exact hy
      · split at hy
        · exact absurd ⟨by omega, by omega⟩ hi
        · exact hy
def fillK (m : Store) (place : Nat → Option (Nat × Nat)) : List (Nat × Operand) → List AV → List (Loc × AV) → (List AV → List (Loc × AV) → Option R) → Option R
  | [], cells, rs, k => k cells rs
  | (i, x) :: rest, cells, rs, k => match place i with
    | some (off, sz) => opK m x fun v rs1 => cellsK v fun vs => match Nat.beq vs.length sz with
      | true => setK cells off vs fun cells' => fillK m place rest cells' (rs1 ++ rs) k
      | false => none
    | none => none
theorem fillK_eq {place : Nat → Option (Nat × Nat)} : ∀ {parts : List (Nat × Operand)} {cells : List AV} {rs : List (Loc × AV)} {k : List AV → List (Loc × AV) → Option R}, fillK m place parts cells rs k = some r →
    ∃ cells' rs', k cells' rs' = some r ∧ (sat rs m → sat rs' m) ∧ ∀ m', sat rs' m' → sat rs m' ∧ ∀ (P : Program) (Γ : Ctx) (M : Nat → Nat → Prop) (Ow : Loc → Nat → Option Nat) (n : Nat) (a : Act) (w : World), Rel P Γ M Ow n m' a w →
      ∀ carr, PFit P w M Ow cells carr → ∃ carr', Instr.fill place carr (parts.map fun p => (p.1, a.eval p.2)) = some carr' ∧ PFit P w M Ow cells' carr'
  | [], cells, rs, k, h => ⟨cells, rs, h, fun h => h, fun m' hs => ⟨hs, fun P Γ M Ow n a w hr carr hp => ⟨carr, rfl, hp⟩⟩⟩
  | (i, x) :: rest, cells, rs, k, h => by
    simp only [fillK] at h
    split at h
    · rename_i off sz hpl
      obtain ⟨v, rs1, h2, h3, _, h4⟩ := opK_eq h
      obtain ⟨vs, h5, hc, _⟩ := cellsK_eq h2
      split at h5
      · rename_i hsz
        have hsz : vs.length = sz := Nat.eq_of_beq_eq_true hsz
        obtain ⟨h6, hl⟩ := setK_eq h5
        obtain ⟨cells', rs', h7, h8, h9⟩ := fillK_eq h6
        refine ⟨cells', rs', h7, fun hs => h8 (sat_app.2 ⟨h3, hs⟩), fun m' hs => ?_⟩
        obtain ⟨s0, h10⟩ := h9 m' hs
        obtain ⟨s1, s2⟩ := sat_app.1 s0
        refine ⟨s2, fun P Γ M Ow n a w hr carr hp => ?_⟩
        obtain ⟨q, hq⟩ := h4 m' s1 P Γ M Ow n a w hr
        obtain ⟨c1, c2, c3⟩ := hc P w M Ow q _ hq
        have hp2 := hp.set (off := off) hl c1 c2 c3
        obtain ⟨carr', e1, e2⟩ := h10 P Γ M Ow n a w hr _ hp2
        refine ⟨carr', ?_, e2⟩
        simp only [List.map_cons, Instr.fill, hpl]
        rw [if_neg (by simp [c1, hsz, hp.1]; omega)]
        exact e1
      · cases h5
    · cases h
def aggR (d : Nat) (rs : List (Loc × AV)) (cells : List AV) : Option R := match packO cells with
  | some ts => some ([], rs, [(.s d, .tr (.ag ts))])
  | none => degK cells fun cs => some ([], rs, [(.s d, .agg cs)])
theorem aggR_eq {d : Nat} {rs : List (Loc × AV)} {cells : List AV} (h : aggR d rs cells = some r) : ∃ v, r = ([], rs, [(.s d, v)]) ∧ ∀ (P : Program) (w : World) (M : Nat → Nat → Prop) (Ow : Loc → Nat → Option Nat) (carr : Array Value), PFit P w M Ow cells carr → VRel w M (fun κ => Ow κ 0) v (.agg carr) := by
  unfold aggR at h
  split at h
  · rename_i ts hp
    obtain ⟨p1, p2⟩ := packO_eq hp
    refine ⟨_, (Option.some.inj h).symm, fun P w M Ow carr hf => .tr _ _ (.ag _ _ (by rw [hf.1, p1]) hf.2.1 ?_)⟩
    intro i x v hx hv
    obtain ⟨y, hy, hyd⟩ := p2 i x hx
    have := deg_vrel (hf.2.2 i y v hy hv)
    rw [hyd] at this
    cases this with
    | tr _ _ h => exact h
  · have h1 := degK_eq h
    refine ⟨_, (Option.some.inj h1).symm, fun P w M Ow carr hf => .agg _ _ (by simp [hf.1]) hf.2.1 ?_⟩
    intro i x v hx hv
    rw [List.getElem?_map] at hx
    obtain ⟨y, hy, rfl⟩ := Option.map_eq_some_iff.1 hx
    exact deg_vrel (hf.2.2 i y v hy hv)
def lnth (fl : List (Nat × Nat)) (i : Nat) : Option (Nat × Nat) := match fl, i with
  | [], _ => none
  | q :: _, 0 => some q
  | _ :: r, i + 1 => lnth r i
theorem lnth_eq : ∀ (fl : List (Nat × Nat)) (i : Nat), lnth fl i = fl.toArray[i]?
  | [], i => by simp [lnth]
  | q :: r, 0 => by simp [lnth]
  | q :: r, i + 1 => by
    have := lnth_eq r i
    simp only [lnth, this]; simp
def evBuild (tab : Tab) (m : Store) (d t : Nat) (parts : List (Nat × Operand)) : Option R := match tlk tab t with
  | some ⟨_, _, .struct fl, zs⟩ => fillK m (lnth fl) parts zs [] fun cells rs => aggR d rs cells
  | some ⟨_, _, .array k e, zs⟩ => match tlk tab e with
    | some ⟨es, _, _, _⟩ => fillK m (fun i => some (i * es, es)) parts zs [] fun cells rs => aggR d rs cells
    | none => none
  | _ => none
theorem mapM_places : ∀ {fs : List Field}, fs.all (fun f => (P.info? f.type).isSome) = true → fs.mapM (fun f => (P.info? f.type).map fun i => (f.offset, i.size)) = some (fs.map fun f => (f.offset, P.cellsOf f.type))
  | [], _ => rfl
  | f :: fs, h => by
    simp only [List.all_cons, Bool.and_eq_true] at h
    obtain ⟨i, hi⟩ := Option.isSome_iff_exists.1 h.1
    simp [List.mapM_cons, hi, mapM_places h.2, Program.cellsOf]
theorem evBuild_ok {o : Oper} {d t : Nat} {parts : Array (Nat × Operand)} (hT : TabOk P tab) (hd : d < n) (hdst : o.dst = some d) (hop : ∀ (ρ : Operand → Value), execOp ρ o = (do pure (.value (← Instr.build t (parts.map fun (i, x) => (i, ρ x)))))) (h : evBuild tab m d t parts.toList = some r) : OSpec P n o m r := by
  have go : ∀ {place : Nat → Option (Nat × Nat)} {zs : List AV} {z : Value} (hz : zsOk zs z.cells.toList = true) (ho : ownTys P zs = true)
      (hb : ∀ (ps : List (Nat × Value)) (carr : Array Value), Instr.fill place z.cells ps = some carr → P.built t ps = some carr), fillK m place parts.toList zs [] (fun cells rs => aggR d rs cells) = some r → OSpec P n o m r := by
    intro place zs z hz ho hb h
    obtain ⟨cells', rs', h1, h2, h3⟩ := fillK_eq h
    obtain ⟨v, rfl, h4⟩ := aggR_eq h1
    refine OSpec.val hd hdst (h2 trivial) fun m' hs Γ M Ow a w hr => ?_
    obtain ⟨z1, z2, z3, z4⟩ := zsOk_all hz ho
    have hp : PFit P w M Ow zs z.cells := ⟨by rw [z1]; simp, fun i u hu => z3 i u (by simpa using hu), fun i y u hy hu => z4 w M Ow i y u hy (by simpa using hu)⟩
    obtain ⟨carr', e1, e2⟩ := (h3 m' hs).2 P Γ M Ow n a w hr _ hp
    refine ⟨.agg carr', ?_, h4 P w M Ow carr' e2⟩
    rw [hop]
    have := run_build (P := P) w t (parts.map fun (i, x) => (i, a.eval x)) carr' (hb _ _ (by simpa using e1))
    rw [Sem.run_bind, this]; rfl
  unfold evBuild at h
  split at h
  · rename_i sz by' fl zs ht
    obtain ⟨i, hi, _, _, _, ho, z, hz, hzs⟩ := hT.info ht
    obtain ⟨fs, hu, hfl, hall⟩ := hT.struct ht rfl
    refine go hzs ho (fun ps carr hf => ?_) h
    simp only [Program.built, hi, hu, hz, mapM_places hall]
    rw [← hfl]
    have : (fun i => lnth fl i) = (fun i => fl.toArray[i]?) := funext (lnth_eq fl)
    rw [← hf]; congr 1; exact this.symm
  · rename_i sz by' k e zs ht
    split at h
    · rename_i es _ _ _ he
      obtain ⟨i, hi, _, _, _, ho, z, hz, hzs⟩ := hT.info ht
      obtain ⟨ie, hie, hes, _⟩ := hT.info he
      have hu := hT.array ht rfl
      refine go hzs ho (fun ps carr hf => ?_) h
      simp only [Program.built, hi, hu, hz, hie, hes]
      exact hf
    · cases h
  · cases h
end
end Go.Lg

set_option linter.unusedVariables false
set_option linter.unusedSimpArgs false
namespace Go.Lg
open Go Go.RowKit
section
variable {P : Program} {n : Nat} {tab : Tab} {m : Store} {r : R}
def splitO : Nat → List AV → Option (List AV × List AV)
  | 0, r => some ([], r)
  | k + 1, v :: r => match splitO k r with
    | some (h, t) => some (v :: h, t)
    | none => none
  | _ + 1, [] => none
theorem splitO_eq : ∀ {k : Nat} {cs h t : List AV}, splitO k cs = some (h, t) → cs = h ++ t ∧ h.length = k
  | 0, cs, h, t, e => by simp [splitO] at e; obtain ⟨rfl, rfl⟩ := e; simp
  | k + 1, v :: r, h, t, e => by
    simp only [splitO] at e
    split at e
    · rename_i h' t' e'
      obtain ⟨e1, e2⟩ := splitO_eq e'
      simp only [Option.some.injEq, Prod.mk.injEq] at e
      obtain ⟨rfl, rfl⟩ := e
      exact ⟨by simp [e1], by simp [e2]⟩
    · cases e
  | k + 1, [], h, t, e => by simp [splitO] at e
def elemO (agg : Bool) (ts : List T) : Option T := match agg, ts with
  | true, ts => some (.ag ts)
  | false, [.sc c] => some (.sc c)
  | false, [.ls xs] => some (.ls xs)
  | _, _ => none
theorem elemO_eq {agg : Bool} {ts : List T} {x : T} (h : elemO agg ts = some x) : x.cells = ts := by
  unfold elemO at h
  split at h <;> first | (obtain rfl := Option.some.inj h; rfl) | cases h
def groupO (agg : Bool) (es : Nat) : Nat → List AV → Option (List T)
  | 0, [] => some []
  | 0, _ :: _ => none
  | k + 1, cs => match splitO es cs with
    | some (h, t) => match packO h with
      | some ts => match elemO agg ts with
        | some x => match groupO agg es k t with
          | some xs => some (x :: xs)
          | none => none
        | none => none
      | none => none
    | none => none
theorem groupO_eq {agg : Bool} {es : Nat} : ∀ {k : Nat} {cs : List AV} {xs : List T}, groupO agg es k cs = some xs → xs.length = k ∧ cs.length = k * es ∧ (∀ x, x ∈ xs → x.cells.length = es) ∧
    ∀ (i j : Nat) (x y : T), xs[i]? = some x → x.cells[j]? = some y → ∃ v, cs[i * es + j]? = some v ∧ v.deg = .tr y
  | 0, [], xs, h => by obtain rfl := Option.some.inj h; simp
  | 0, _ :: _, xs, h => by cases h
  | k + 1, cs, xs, h => by
    simp only [groupO] at h
    split at h
    · rename_i hd tl e1
      split at h
      · rename_i ts e2
        split at h
        · rename_i x e3
          split at h
          · rename_i xs' e4
            obtain rfl := Option.some.inj h
            obtain ⟨rfl, hl⟩ := splitO_eq e1
            obtain ⟨p1, p2⟩ := packO_eq e2
            have hx := elemO_eq e3
            obtain ⟨g1, g2, g3, g4⟩ := groupO_eq e4
            refine ⟨by simp [g1], by simp [g2, hl, Nat.succ_mul, Nat.add_comm], ?_, ?_⟩
            · intro y hy
              rcases List.mem_cons.1 hy with rfl | hy
              · rw [hx, p1, hl]
              · exact g3 y hy
            · intro i j y z hy hz
              cases i with
              | zero =>
                simp at hy; subst hy
                rw [hx] at hz
                obtain ⟨v, hv, hvd⟩ := p2 j z hz
                refine ⟨v, ?_, hvd⟩
                simp only [Nat.zero_mul, Nat.zero_add]
                rw [List.getElem?_append_left (by rcases Nat.lt_or_ge j hd.length with h | h; exact h; rw [List.getElem?_eq_none h] at hv; cases hv)]
                exact hv
              | succ i =>
                obtain ⟨v, hv, hvd⟩ := g4 i j y z (by simpa using hy) hz
                refine ⟨v, ?_, hvd⟩
                have : (i + 1) * es + j = hd.length + (i * es + j) := by rw [hl, Nat.succ_mul]; omega
                rw [this, List.getElem?_append_right (by omega)]
                simpa using hv
          · cases h
        · cases h
      · cases h
    · cases h
def repK : Nat → List AV → (List AV → Option R) → Option R
  | 0, _, k => k []
  | q + 1, zs, k => repK q zs fun r => k (zs ++ r)
theorem repK_eq {zs : List AV} : ∀ {q : Nat} {k : List AV → Option R}, repK q zs k = some r → ∃ cs, k cs = some r ∧ cs.length = q * zs.length ∧ ∀ i, i < q * zs.length → cs[i]? = zs[i % zs.length]?
  | 0, k, h => ⟨[], h, by simp, fun i hi => by simp at hi⟩
  | q + 1, k, h => by
    obtain ⟨cs, h1, h2, h3⟩ := repK_eq (by simpa only [repK] using h)
    refine ⟨zs ++ cs, h1, by simp [h2, Nat.succ_mul, Nat.add_comm], fun i hi => ?_⟩
    rw [Nat.succ_mul] at hi
    rcases Nat.lt_or_ge i zs.length with hl | hl
    · rw [List.getElem?_append_left hl, Nat.mod_eq_of_lt hl]
    · rw [List.getElem?_append_right hl, h3 _ (by omega), Nat.mod_eq_sub_mod hl]
def evBuildSlice (tab : Tab) (m : Store) (d t len : Nat) (parts : List (Nat × Operand)) : Option R := match tlk tab t with
  | some ⟨_, _, .slice e, _⟩ => match tlk tab e with
    | some ⟨es, _, kind, zs⟩ => match Nat.ble (len * es) 16777216, Nat.beq zs.length es, Nat.beq es 0 with
      | true, true, false => repK len zs fun cs => fillK m (fun i => some (i * es, es)) parts cs [] fun cells rs => match groupO kind.agg es len cells with
        | some xs => some ([], rs, [(.s d, .own e xs)])
        | none => none
      | _, _, _ => none
    | none => none
  | _ => none
theorem putown_new {Γ : Ctx} {M : Nat → Nat → Prop} {Ow : Loc → Nat → Option Nat} {a : Act} {w w' : World} (hr : Rel P Γ M Ow n m a w) {d : Nat} (hd : d < n) {e : TypeId} {i : TypeInfo} (hi : P.info? e = some i) {xs : List T} {carr : Array Value} {cap : Nat}
    (hbel : Below w.heap.size w w') (hnew : w'.heap[w.heap.size]? = some (.cells carr e (0, 0))) (hsz : carr.size = cap * i.size) (hcap : xs.length ≤ cap) (hx : ∀ x, x ∈ xs → x.cells.length = i.size)
    (h1 : ∀ (k : Nat) (u : Value), carr[k]? = some u → u.oneCell' = true)
    (hrep : ∀ (k j : Nat) (x y : T), xs[k]? = some x → x.cells[j]? = some y → ∃ v, carr[k * i.size + j]? = some v ∧ Rep w M y v) :
    RelX P Γ n ((.s d, .own e xs) :: m) (a.put (some d) (.slice (some ⟨w.heap.size, 0, none⟩) xs.length cap)) w' := by
  have hlt : w.heap.size < w'.heap.size := (Array.getElem?_eq_some_iff.1 hnew).1
  have hr2 := hr.ext (w' := w') (M' := fun b o => M b o ∨ (b = w.heap.size ∧ o < xs.length * i.size)) hbel (fun _ _ h => .inl h) (fun b o h => by
    rcases h with h | ⟨rfl, _⟩
    · exact .inl h
    · exact .inr (Nat.le_refl _)) (fun b o h => by
    rcases h with h | ⟨rfl, _⟩
    · exact Nat.lt_of_lt_of_le (hr.mlt b o h) hbel.size
    · exact hlt)
  have hM : ∀ b o, M b o → (M b o ∨ (b = w.heap.size ∧ o < xs.length * i.size)) ∧ w'.cell? ⟨b, o, none⟩ = w.cell? ⟨b, o, none⟩ := fun b o h => ⟨.inl h, hbel.cell (p := ⟨b, o, none⟩) (hr.mlt b o h)⟩
  have hlin : ∀ {k j : Nat}, k < xs.length → j < i.size → k * i.size + j < xs.length * i.size := by
    intro k j hk hj
    have : (k + 1) * i.size ≤ xs.length * i.size := Nat.mul_le_mul_right _ hk
    rw [Nat.succ_mul] at this; omega
  have hRep : Rep w' (fun b o => M b o ∨ (b = w.heap.size ∧ o < xs.length * i.size)) (.ls xs) (.slice (some ⟨w.heap.size, 0, none⟩) xs.length cap) := by
    refine .ls xs w.heap.size 0 i.size cap (fun k j => carr.getD (k * i.size + j) undef) hcap hx ?_ ?_ ?_ ?_
    · intro k j hk hj; exact .inr ⟨rfl, by rw [Nat.zero_add]; exact hlin hk hj⟩
    · intro k j hk hj
      have hl : k * i.size + j < carr.size := by
        rw [hsz]
        have := hlin hk hj
        have h2 : xs.length * i.size ≤ cap * i.size := Nat.mul_le_mul_right _ hcap
        omega
      simp [World.cell?, hnew, hl]
    · intro k j hk hj
      have hl : k * i.size + j < carr.size := by
        rw [hsz]
        have := hlin hk hj
        have h2 : xs.length * i.size ≤ cap * i.size := Nat.mul_le_mul_right _ hcap
        omega
      have := h1 (k * i.size + j) carr[k * i.size + j] (by simp [hl])
      simpa [hl] using this
    · intro k j x y hkx hjy
      obtain ⟨v, hv, hrv⟩ := hrep k j x y hkx hjy
      have : carr.getD (k * i.size + j) undef = v := by simp [hv]
      rw [this]; exact hrv.mono hM
  exact ⟨_, setO Ow (.s d) 0 (some w.heap.size), hr2.putown hd (o := some w.heap.size) ⟨i, hi, hx, .inr ⟨w.heap.size, 0, cap, carr, rfl, rfl, hRep, hnew, by omega, hcap, fun k hk h => by
    rcases h with h | ⟨_, h⟩
    · exact absurd (hr.mlt _ _ h) (Nat.lt_irrefl _)
    · omega, h1⟩⟩ (fun b hb => by
      obtain rfl := Option.some.inj hb
      exact ⟨fun l i e => absurd (hr.lt l i _ e) (Nat.lt_irrefl _), hlt, .inr hr.fr.size⟩)⟩
theorem run_buildSlice0 {w : World} {t e : TypeId} {parts : Array (Nat × Value)} {ie : TypeInfo} (hu : P.underlying t = some (.slice e)) (hie : P.info? e = some ie)
    (h : Instr.fill (fun i => some (i * ie.size, ie.size)) #[] parts.toList = some #[]) : (Instr.buildSlice t 0 parts).run P w = .ok (.slice (some ⟨w.heap.size, 0, none⟩) 0 0) (w.alloc (.cells #[] e)) := by
  have e0 : (Array.map (fun _ : Nat => (default : Value)) (Array.range 0)) = #[] := by simp
  simp [Instr.buildSlice, run_underlying hu, sizeOf, typeInfo, hie, newRow, e0, h]
theorem evBuildSlice_ok {o : Oper} {d t len : Nat} {parts : Array (Nat × Operand)} (hT : TabOk P tab) (hd : d < n) (hdst : o.dst = some d) (hop : ∀ (ρ : Operand → Value), execOp ρ o = (do pure (.value (← Instr.buildSlice t len (parts.map fun (i, x) => (i, ρ x)))))) (h : evBuildSlice tab m d t len parts.toList = some r) : OSpec P n o m r := by
  unfold evBuildSlice at h
  split at h
  · rename_i sz0 by0 e zs0 ht
    split at h
    · rename_i es by1 kind zs he
      split at h
      · rename_i hs1 hs2 hs3
        have hsm : len * es ≤ 16777216 := Nat.le_of_ble_eq_true hs1
        have hzl : zs.length = es := Nat.eq_of_beq_eq_true hs2
        have hes : es ≠ 0 := fun e => by subst e; cases hs3
        obtain ⟨ie, hie, hisz, _, _, ho, z, hz, hzs⟩ := hT.info he
        have hisz : ie.size = es := hisz
        obtain ⟨z1, z2, z3, z4⟩ := zsOk_all hzs ho
        have hzsz : z.cells.size = es := by rw [← hzl, z1]; simp
        obtain ⟨cs, h1, h2, h3⟩ := repK_eq h
        obtain ⟨cells', rs', h4, h5, h6⟩ := fillK_eq h1
        split at h4
        · rename_i xs hg
          obtain rfl := Option.some.inj h4
          obtain ⟨g1, g2, g3, g4⟩ := groupO_eq hg
          refine ⟨h5 trivial, fun m' hs _ => OAct.of fun Γ M Ow a w hr => ?_⟩
          have hp : PFit P w M Ow cs ((Array.range (len * es)).map (z.cells[· % z.cells.size]!)) := by
            have at_ : ∀ {i : Nat} {u : Value}, ((Array.range (len * es)).map (z.cells[· % z.cells.size]!))[i]? = some u → i < len * es ∧ z.cells.toList[i % es]? = some u := by
              intro i u hu
              rw [Array.getElem?_map] at hu
              obtain ⟨j, hj, rfl⟩ := Option.map_eq_some_iff.1 hu
              have hil : i < len * es := by
                rcases Nat.lt_or_ge i (len * es) with h | h
                · exact h
                · rw [Array.getElem?_eq_none (by simpa using h)] at hj; cases hj
              have : j = i := by
                rw [Array.getElem?_eq_getElem (by simpa using hil)] at hj
                simpa using (Option.some.inj hj).symm
              subst this
              refine ⟨hil, ?_⟩
              have hm : j % es < z.cells.size := by rw [hzsz]; exact Nat.mod_lt _ (by omega)
              rw [hzsz]
              simp [hm]
            refine ⟨by simp [h2, hzl], ?_, ?_⟩
            · intro i u hu; exact z3 _ u (at_ hu).2
            · intro i y u hy hu
              obtain ⟨hil, hu'⟩ := at_ hu
              rw [h3 i (by rw [hzl]; exact hil), hzl] at hy
              exact z4 w M Ow _ y u hy hu'
          obtain ⟨carr', e1, e2⟩ := (h6 m' hs).2 P Γ M Ow n a w hr _ hp
          have hu := hT.slice ht rfl
          by_cases hl0 : len = 0
          · subst hl0
            obtain rfl : xs = [] := List.eq_nil_of_length_eq_zero g1
            have hc0 : carr'.size = 0 := by rw [e2.1, g2]; simp
            have hc0' : carr' = #[] := Array.eq_empty_of_size_eq_zero hc0
            subst hc0'
            refine ⟨.slice (some ⟨w.heap.size, 0, none⟩) 0 0, w.alloc (.cells #[] e), ?_, ?_⟩
            · rw [hop]
              have hf : Instr.fill (fun i => some (i * ie.size, ie.size)) #[] (parts.map fun (i, x) => (i, a.eval x)).toList = some #[] := by
                rw [hisz]
                have : ((Array.range (0 * es)).map (z.cells[· % z.cells.size]!)) = #[] := by simp
                rw [this] at e1; simpa using e1
              have : (Instr.buildSlice t 0 (parts.map fun (i, x) => (i, a.eval x))).run P w = .ok (.slice (some ⟨w.heap.size, 0, none⟩) 0 0) (w.alloc (.cells #[] e)) := by
                generalize (parts.map fun (i, x) => (i, a.eval x)) = ps at hf
                exact run_buildSlice0 hu hie hf
              rw [Sem.run_bind, this]; rfl
            · rw [hdst]
              have := putown_new (cap := 0) (xs := []) hr hd hie (below_alloc w (.cells #[] e)) (alloc_at w _) (by simp) (by simp) (by simp) (by simp) (by simp)
              simpa using this
          · refine ⟨.slice (some ⟨w.heap.size, 0, none⟩) len len, w.alloc (.cells carr' e), ?_, ?_⟩
            · rw [hop]
              have := run_buildSlice (P := P) w t e len (parts.map fun (i, x) => (i, a.eval x)) carr' ie z hu hie hz (by rw [hisz]; omega) (by rw [hisz]; exact Nat.mul_ne_zero hl0 hes) (by rw [hisz]; simpa using e1)
              rw [Sem.run_bind, this]; rfl
            · rw [hdst]
              have hcs : carr'.size = len * ie.size := by rw [e2.1, g2, hisz]
              have := putown_new (cap := len) (xs := xs) hr hd hie (below_alloc w (.cells carr' e)) (alloc_at w _) hcs (by omega) (by rw [hisz]; exact g3) e2.2.1 (by
                intro k j x y hx hy
                obtain ⟨v, hv, hvd⟩ := g4 k j x y hx hy
                have hlt : k * es + j < carr'.size := by
                  rw [e2.1]
                  rcases Nat.lt_or_ge (k * es + j) cells'.length with h | h
                  · exact h
                  · rw [List.getElem?_eq_none h] at hv; cases hv
                refine ⟨carr'[k * es + j], by rw [hisz]; simp [hlt], ?_⟩
                have := deg_vrel (e2.2.2 _ v _ hv (by simp [hlt] : carr'[k * es + j]? = some carr'[k * es + j]))
                rw [hvd] at this
                cases this with
                | tr _ _ h => exact h)
              rw [g1] at this
              exact this
        · cases h4
      · cases h
    · cases h
  · cases h
end
end Go.Lg

set_option linter.unusedVariables false
set_option linter.unusedSimpArgs false
namespace Go.Lg
open Go Go.RowKit
section
variable {P : Program} {n : Nat} {tab : Tab} {m : Store} {r : R}
def evLen (tab : Tab) (m : Store) (d t : Nat) (x : Operand) : Option R := match tlk tab t with
  | some ⟨_, _, .slice _, _⟩ => opK m x fun v rs => match v with
    | .own _ xs => some ([], rs, [(.s d, .tr (.sc (.int .i64 (xs.length : Int))))])
    | .tr (.ls xs) => some ([], rs, [(.s d, .tr (.sc (.int .i64 (xs.length : Int))))])
    | _ => none
  | some ⟨_, _, .str, _⟩ => opK m x fun v rs => match v with
    | .tr (.sc (.string s)) => some ([], rs, [(.s d, .tr (.sc (.int .i64 (s.size : Int))))])
    | _ => none
  | _ => none
theorem evLen_ok {o : Oper} {d t : Nat} {x : Operand} (hT : TabOk P tab) (hd : d < n) (hdst : o.dst = some d) (hop : ∀ (ρ : Operand → Value), execOp ρ o = (do pure (.value (← Builtin.len_ #[t] o.type #[ρ x])))) (h : evLen tab m d t x = some r) : OSpec P n o m r := by
  have sl : ∀ {xs : List T} {v : Value} {w : World} {M : Nat → Nat → Prop}, Rep w M (.ls xs) v → ∃ a c, v = .slice a xs.length c := by
    intro xs v w M h
    cases h with
    | nil a cap => exact ⟨a, cap, rfl⟩
    | ls _ b off es cap f => exact ⟨_, cap, rfl⟩
  unfold evLen at h
  split at h
  · rename_i e _ ht
    have hu := hT.slice ht rfl
    obtain ⟨v, rs, h2, h3, hrf, h4⟩ := opK_eq h
    have fin : ∀ {xs : List T}, v.deg = .tr (.ls xs) → r = ([], rs, [(.s d, .tr (.sc (.int .i64 (xs.length : Int))))]) → OSpec P n o m r := by
      intro xs hv hr'
      subst hr'
      refine OSpec.val hd hdst h3 fun m' hs Γ M Ow a w hr => ?_
      obtain ⟨q, hq⟩ := h4 m' hs P Γ M Ow n a w hr
      have := deg_vrel hq
      rw [hv] at this
      have hrep : Rep w M (.ls xs) (a.eval x) := by cases this with | tr _ _ h => exact h
      obtain ⟨ad, c, e⟩ := sl hrep
      exact ⟨_, by rw [hop, e]; simp [Builtin.len_, run_underlying hu, goInt], .tr _ _ (.sc _ rfl)⟩
    split at h2
    · exact fin rfl (Option.some.inj h2).symm
    · exact fin rfl (Option.some.inj h2).symm
    · cases h2
  · rename_i _ ht
    have hu := hT.str ht rfl
    obtain ⟨v, rs, h2, h3, hrf, h4⟩ := opK_eq h
    split at h2
    · obtain rfl := Option.some.inj h2
      refine OSpec.val hd hdst h3 fun m' hs Γ M Ow a w hr => ?_
      obtain ⟨q, hq⟩ := h4 m' hs P Γ M Ow n a w hr
      exact ⟨_, by rw [hop, (sc_eval (Γ := Γ) hq).1]; simp [Builtin.len_, run_underlying hu, goInt], .tr _ _ (.sc _ rfl)⟩
    · cases h2
  · cases h
def evPick (m : Store) (d : Nat) (c x y : Operand) : Option R := opK m c fun v rs => scK v fun b => match b with
  | .bool true => opK m x fun u rs' => nd u fun u' => some ([], rs ++ rs', [(.s d, u')])
  | .bool false => opK m y fun u rs' => nd u fun u' => some ([], rs ++ rs', [(.s d, u')])
  | _ => none
theorem evPick_ok {o : Oper} {d : Nat} {c x y : Operand} (hd : d < n) (hdst : o.dst = some d) (hop : ∀ (ρ : Operand → Value), execOp ρ o = (do pure (.value (if ← asBool (ρ c) then ρ x else ρ y)))) (h : evPick m d c x y = some r) : OSpec P n o m r := by
  obtain ⟨v, rs, h2, h3, _, h4⟩ := opK_eq h
  obtain ⟨b, rfl, h5⟩ := scK_eq h2
  have fin : ∀ {z : Operand} {bb : Bool}, b = .bool bb → (if bb then x else y) = z → opK m z (fun u rs' => nd u fun u' => some ([], rs ++ rs', [(.s d, u')])) = some r → OSpec P n o m r := by
    intro z bb hb hz hk
    obtain ⟨u, rs', k1, k2, _, k4⟩ := opK_eq hk
    have k5 := nd_eq k1
    obtain rfl := Option.some.inj k5
    refine OSpec.val hd hdst (sat_app.2 ⟨h3, k2⟩) fun m' hs Γ M Ow a w hr => ?_
    obtain ⟨s1, s2⟩ := sat_app.1 hs
    obtain ⟨q, hq⟩ := h4 m' s1 P Γ M Ow n a w hr
    obtain ⟨q', hq'⟩ := k4 m' s2 P Γ M Ow n a w hr
    refine ⟨a.eval z, ?_, deg_vrel hq'⟩
    rw [hop, (sc_eval (Γ := Γ) hq).1, hb]
    subst hz
    cases bb <;> simp [asBool]
  split at h5
  · exact fin rfl rfl h5
  · exact fin rfl rfl h5
  · cases h5
def evConv (tab : Tab) (m : Store) (d s t : Nat) (x : Operand) : Option R := match tlk tab s, tlk tab t with
  | some ⟨_, _, .int _, _⟩, some ⟨_, _, .int k, _⟩ => opK m x fun v rs => scK v fun c => match c with
    | .int _ a => some ([], rs, [(.s d, .tr (.sc (.int k (k.wrap a))))])
    | _ => none
  | _, _ => none
theorem evConv_ok {o : Oper} {d s t : Nat} {x : Operand} (hT : TabOk P tab) (hd : d < n) (hdst : o.dst = some d) (hop : ∀ (ρ : Operand → Value), execOp ρ o = (do pure (.value (← convert s t (ρ x))))) (h : evConv tab m d s t x = some r) : OSpec P n o m r := by
  unfold evConv at h
  split at h
  · rename_i k0 z0 _ _ k z hs ht
    obtain ⟨v, rs, h2, h3, _, h4⟩ := opK_eq h
    obtain ⟨c, rfl, h5⟩ := scK_eq h2
    split at h5
    · obtain rfl := Option.some.inj h5
      refine OSpec.val hd hdst h3 fun m' hs' Γ M Ow a w hr => ?_
      obtain ⟨q, hq⟩ := h4 m' hs' P Γ M Ow n a w hr
      exact ⟨_, by rw [hop, (sc_eval (Γ := Γ) hq).1]; simp [convert, run_underlying (hT.int ht rfl), run_underlying (hT.int hs rfl), Conv.intToInt], .tr _ _ (.sc _ rfl)⟩
    · cases h5
  · cases h
def memN (d : Nat) : List Nat → Bool
  | [] => false
  | x :: r => Nat.beq x d || memN d r
def bases : List Oper → List Nat
  | [] => []
  | o :: r => match o.op with
    | .call ⟨.builtin .append, ⟨.tmp t :: _⟩, _⟩ => t :: bases r
    | _ => bases r
def ev1 (tab : Tab) (m : Store) (bs : List Nat) (o : Oper) (d : Nat) : Option R := match o.op with
  | .assign (.const (.slice none 0 0)) => evNil tab d o.type
  | .move x => evMove m (memN d bs) d x
  | .assign x => evMove m true d x
  | .pick c x y => evPick m d c x y
  | .alloc t => evAlloc tab d t
  | .box t x => evBox m d t x
  | .build t ps => evBuild tab m d t ps.toList
  | .buildSlice t len ps => evBuildSlice tab m d t len ps.toList
  | .load t p => evLoad tab m (memN d bs) d t p
  | .fieldAddr s p f => evFieldAddr tab m d s p f
  | .extract x i => evExtract m d x i
  | .makeFunc (.func f) ⟨[]⟩ caps => evFunc m d f caps.toList
  | .binOp op t x y _ => evBin tab m d op t x y
  | .unOp op _ x => evUn m d op x
  | .convert s t x => evConv tab m d s t x
  | .call ⟨.builtin .len, ⟨[x]⟩, ⟨[t]⟩⟩ => evLen tab m d t x
  | _ => none
def ev (tab : Tab) (n : Nat) (m : Store) (bs : List Nat) (o : Oper) : Option R := match o.dst with
  | some d => match Nat.blt d n with
    | true => ev1 tab m bs o d
    | false => none
  | none => match o.op with
    | .store t p x => evStore tab m t p x
    | _ => none
theorem ev_ok {o : Oper} {bs : List Nat} (hT : TabOk P tab) (h : ev tab n m bs o = some r) : OSpec P n o m r := by
  obtain ⟨dst, op, type, pos, after, guard⟩ := o
  unfold ev at h
  split at h
  · rename_i d hdst
    split at h
    · rename_i hlt
      have hd : d < n := Nat.lt_of_succ_le (Nat.le_of_ble_eq_true hlt)
      unfold ev1 at h
      split at h
      · rename_i hop; simp only at hop; subst hop; exact evNil_ok hT hd hdst (fun ρ => rfl) h
      · rename_i hop; simp only at hop; subst hop; exact evMove_ok hd hdst (fun ρ => rfl) h
      · rename_i hop; simp only at hop; subst hop; exact evMove_ok hd hdst (fun ρ => rfl) h
      · rename_i hop; simp only at hop; subst hop; exact evPick_ok hd hdst (fun ρ => rfl) h
      · rename_i hop; simp only at hop; subst hop; exact evAlloc_ok hT hd hdst (fun ρ => rfl) h
      · rename_i hop; simp only at hop; subst hop; exact evBox_ok hd hdst (fun ρ => rfl) h
      · rename_i hop; simp only at hop; subst hop; exact evBuild_ok hT hd hdst (fun ρ => rfl) h
      · rename_i hop; simp only at hop; subst hop; exact evBuildSlice_ok hT hd hdst (fun ρ => rfl) h
      · rename_i hop; simp only at hop; subst hop; exact evLoad_ok hT hd hdst (fun ρ => rfl) h
      · rename_i hop; simp only at hop; subst hop; exact evFieldAddr_ok hT hd hdst (fun ρ => rfl) h
      · rename_i hop; simp only at hop; subst hop; exact evExtract_ok hd hdst (fun ρ => rfl) h
      · rename_i hop; simp only at hop; subst hop; exact evFunc_ok hd hdst (fun ρ => by simp [execOp]) h
      · rename_i hop; simp only at hop; subst hop; exact evBin_ok hT hd hdst (fun ρ => rfl) h
      · rename_i hop; simp only at hop; subst hop; exact evUn_ok hd hdst (fun ρ => rfl) h
      · rename_i hop; simp only at hop; subst hop; exact evConv_ok hT hd hdst (fun ρ => rfl) h
      · rename_i hop; simp only at hop; subst hop; exact evLen_ok hT hd hdst (fun ρ => by simp [execOp, resolve, invoke, builtin]) h
      · cases h
    · cases h
  · rename_i hdst
    split at h
    · rename_i hop
      simp only at hop; subst hop
      exact evStore_ok hT hdst (fun ρ => rfl) h
    · cases h
end
end Go.Lg

set_option linter.unusedVariables false
set_option linter.unusedSimpArgs false
namespace Go.Lg
open Go Go.RowKit
section
variable {P : Program} {G : Env} {n : Nat} {tab : Tab} {m : Store} {r : R}
def dstN : List Oper → Nat → Option Nat
  | o :: _, 0 => o.dst
  | _ :: r, j + 1 => dstN r j
  | [], _ => none
theorem dstN_eq : ∀ (l : List Oper) (j : Nat), dstN l j = (l[j]?).bind (·.dst)
  | [], j => by simp [dstN]
  | o :: r, 0 => by simp [dstN]
  | o :: r, j + 1 => by simp only [dstN, dstN_eq r j]; simp
def gsays (v : AV) (want : Bool) : Option Bool := match v with
  | .tr (.sc (.bool true)) => some want
  | .tr (.sc (.bool false)) => some !want
  | .und => some false
  | _ => none
def evG (tab : Tab) (n : Nat) (m : Store) (bs : List Nat) (ops : List Oper) (o : Oper) : Option R := match o.guard with
  | none => ev tab n m bs o
  | some (j, want) => match dstN ops j with
    | some g => match lk m (.s g) with
      | some v => match gsays v want with
        | some true => match ev tab n m bs o with
          | some (fr, rs, ws) => some (fr, (.s g, v) :: rs, ws)
          | none => none
        | some false => match o.dst with
          | some d => match Nat.blt d n with
            | true => some ([], [(.s g, v)], [(.s d, .und)])
            | false => none
          | none => some ([], [(.s g, v)], [])
        | none => none
      | none => none
    | none => none
structure GSpec (P : Program) (n : Nat) (ops : List Oper) (o : Oper) (m : Store) (r : R) : Prop where
  here : sat r.2.1 m
  act : ∀ m', sat r.2.1 m' → (∀ κ, κ ∈ r.1 → refsM κ m' = false) → OStep P n ops.toArray o r.1 m' (r.2.2 ++ m')
theorem yielded_of {ops : List Oper} {j g : Nat} (hg : dstN ops j = some g) {Γ : Ctx} {M : Nat → Nat → Prop} {Ow : Loc → Nat → Option Nat} {a : Act} {w : World} {v : AV} (hr : Rel P Γ M Ow n m a w) (hv : lk m (.s g) = some v) {want b : Bool}
    (hs : gsays v want = some b) : (yielded ops.toArray a.tmps j == some want) = b := by
  have h1 : ((ops.toArray[j]?).bind (·.dst)) = some g := by rw [List.getElem?_toArray, ← dstN_eq]; exact hg
  have h2 := hr.slot g v hv
  unfold yielded
  rw [h1]
  simp only [Option.bind_some]
  unfold gsays at hs
  split at hs
  · obtain rfl := Option.some.inj hs
    have h2 : VRel w M (fun κ => Ow κ 0) (.tr (.sc (.bool true))) (a.tmps.getD g undef) := h2
    have : a.tmps.getD g undef = .bool true := by
      generalize a.tmps.getD g undef = q at h2
      cases h2 with | tr _ _ h => cases h; rfl
    have h3 : a.tmps[g]? = some (.bool true) := by
      rw [Array.getD_eq_getD_getElem?] at this
      cases hq : a.tmps[g]? with
      | none => rw [hq] at this; simp [undef] at this
      | some q => rw [hq] at this; simpa using this
    rw [h3]; cases want <;> rfl
  · obtain rfl := Option.some.inj hs
    have h2 : VRel w M (fun κ => Ow κ 0) (.tr (.sc (.bool false))) (a.tmps.getD g undef) := h2
    have : a.tmps.getD g undef = .bool false := by
      generalize a.tmps.getD g undef = q at h2
      cases h2 with | tr _ _ h => cases h; rfl
    have h3 : a.tmps[g]? = some (.bool false) := by
      rw [Array.getD_eq_getD_getElem?] at this
      cases hq : a.tmps[g]? with
      | none => rw [hq] at this; simp [undef] at this
      | some q => rw [hq] at this; simpa using this
    rw [h3]; cases want <;> rfl
  · obtain rfl := Option.some.inj hs
    have h2 : VRel w M (fun κ => Ow κ 0) .und (a.tmps.getD g undef) := h2
    have : a.tmps.getD g undef = undef := by
      generalize a.tmps.getD g undef = q at h2
      cases h2; rfl
    cases hq : a.tmps[g]? with
    | none => rfl
    | some q =>
      rw [Array.getD_eq_getD_getElem?, hq] at this
      have : q = undef := by simpa using this
      subst this; rfl
  · cases hs
theorem evG_ok {o : Oper} {bs : List Nat} {ops : List Oper} (hT : TabOk P tab) (h : evG tab n m bs ops o = some r) : GSpec P n ops o m r := by
  unfold evG at h
  split at h
  · rename_i hg
    obtain ⟨h1, h2⟩ := ev_ok hT h
    refine ⟨h1, fun m' hs hf Γ a w hpn hr => ?_⟩
    rw [if_pos (by simp [Region.wanted, hg])]
    exact h2 m' hs hf Γ a w hpn hr
  · rename_i j want hg
    split at h
    · rename_i g hd
      split at h
      · rename_i v hv
        split at h
        · rename_i hs
          split at h
          · rename_i fr rs ws he
            obtain rfl := Option.some.inj h
            obtain ⟨h1, h2⟩ := ev_ok hT he
            refine ⟨⟨hv, h1⟩, fun m' hs' hf Γ a w hpn hr => ?_⟩
            obtain ⟨M, Ow, hr'⟩ := hr
            rw [if_pos (by simp only [Region.wanted, hg]; exact yielded_of hd hr' hs'.1 hs)]
            exact h2 m' hs'.2 hf Γ a w hpn ⟨M, Ow, hr'⟩
          · cases h
        · rename_i hs
          split at h
          · rename_i d hdst
            split at h
            · rename_i hlt
              obtain rfl := Option.some.inj h
              refine ⟨⟨hv, trivial⟩, fun m' hs' hf Γ a w hpn hr => ?_⟩
              obtain ⟨M, Ow, hr'⟩ := hr
              rw [if_neg (by simp only [Region.wanted, hg]; rw [yielded_of hd hr' hs'.1 hs]; simp), hdst]
              exact ⟨M, Ow, hr'.put (Nat.lt_of_succ_le (Nat.le_of_ble_eq_true hlt)) .und⟩
            · cases h
          · rename_i hdst
            obtain rfl := Option.some.inj h
            refine ⟨⟨hv, trivial⟩, fun m' hs' hf Γ a w hpn hr => ?_⟩
            obtain ⟨M, Ow, hr'⟩ := hr
            rw [if_neg (by simp only [Region.wanted, hg]; rw [yielded_of hd hr' hs'.1 hs]; simp), hdst]
            exact ⟨M, Ow, hr'⟩
        · cases h
      · cases h
    · cases h
theorem opIn_mono {F : Fence} {k : Nat} {o : Oper} {a : Act} {w : World} {next next' : Act → World → Prop} {Q : Exit → Act → World → Prop} (hn : ∀ a w, next a w → next' a w) (h : o.wpIn F k P a w next (fun _ _ _ => False)) : o.wpIn F k P a w next' Q := by
  refine ⟨h.1, ?_⟩
  have h := h.2
  generalize (o.semAt F.round a.eval).run P w = res at *
  unfold Oper.uponIn at h ⊢
  split at h
  · exact hn _ _ h
  · exact hn _ _ h
  · exact hn _ _ h
  · refine ⟨h.1, h.2.mono fun e w' he => ?_⟩
    cases e with
    | returned v => exact hn _ _ he
    | panicked c => exact he.elim
    | outgrown => obtain ⟨_, _, h0⟩ := he; exact h0.elim
  · exact ⟨h.1, h.2.mono fun v w' hv => hn _ _ hv⟩
  · refine ⟨h.1, h.2.mono fun e w' he => ?_⟩
    cases e with
    | returned v => exact hn _ _ he
    | panicked c => exact he.elim
    | outgrown => obtain ⟨_, _, h0⟩ := he; exact h0.elim
  · exact h.elim
  · exact h.elim
def Sq (P : Program) (G : Env) (n : Nat) (ops : List Oper) (l : List Oper) (m : Store) (K : Store → Prop) : Prop :=
  ∀ (Γ : Ctx), G.ok Γ → ∀ (a : Act) (w : World), RelX P Γ n m a w → ∀ Q : Exit → Act → World → Prop, (∀ m' a' w', K m' → RelX P Γ n m' a' w' → Q .normal a' w') → wpListIn (FW Γ.rd) 0 P ops.toArray Q l a w
theorem zN {ops : List Oper} {K : Store → Prop} (h : K m) : Sq P G n ops [] m K := fun Γ hΓ a w hr Q hQ => hQ m a w h hr
theorem Sq.step {ops l : List Oper} {o : Oper} {fr : List Loc} {m' : Store} {K : Store → Prop} (h : OStep P n ops.toArray o fr m m') (hp : ∀ κ, κ ∈ fr → κ ∉ G.pins) (k : Sq P G n ops l m' K) : Sq P G n ops (o :: l) m K := by
  intro Γ hΓ a w hr Q hQ
  have h1 := h Γ a w (fun κ hk => by
    cases hx : Γ.pin κ with
    | none => rfl
    | some b => exact absurd (hΓ.2 κ (by rw [hx]; simp)) (hp κ hk)) hr
  unfold wpListIn
  split
  · rename_i hw
    rw [if_pos hw] at h1
    exact opIn_mono (fun a' w' h => k Γ hΓ a' w' h Q hQ) h1
  · rename_i hw
    rw [if_neg hw] at h1
    exact ⟨fun _ _ => trivial, k Γ hΓ _ w h1 Q hQ⟩
def appS : List (Loc × AV) → Store → (Store → Option (List Loc × Store)) → Option (List Loc × Store)
  | [], m, k => k m
  | x :: r, m, k => appS r m fun m' => k (x :: m')
theorem appS_eq : ∀ {ws : List (Loc × AV)} {m : Store} {k : Store → Option (List Loc × Store)}, appS ws m k = k (ws ++ m)
  | [], _, _ => rfl
  | x :: r, m, k => by simp only [appS, appS_eq, List.cons_append]
def evS (tab : Tab) (n : Nat) (ops : List Oper) (o : Oper) (m : Store) : Option (List Loc × Store) := match evG tab n m (bases ops) ops o with
  | some (fr, _, ws) => appS ws m fun m' => some (fr, m')
  | none => none
def freshB : List Loc → Store → Bool
  | [], _ => true
  | κ :: r, m => !(refsM κ m) && freshB r m
theorem freshB_eq : ∀ {fr : List Loc} {m : Store}, freshB fr m = true → ∀ κ, κ ∈ fr → refsM κ m = false
  | κ' :: r, m, h, κ, hk => by
    simp only [freshB, Bool.and_eq_true, Bool.not_eq_true'] at h
    rcases List.mem_cons.1 hk with rfl | hk
    · exact h.1
    · exact freshB_eq h.2 κ hk
def pinB : List Loc → List Loc → Bool
  | [], _ => true
  | κ :: r, ps => !(ps.any (fun p => p.eqb κ)) && pinB r ps
theorem pinB_eq : ∀ {fr ps : List Loc}, pinB fr ps = true → ∀ κ, κ ∈ fr → κ ∉ ps
  | κ' :: r, ps, h, κ, hk, hm => by
    simp only [pinB, Bool.and_eq_true, Bool.not_eq_true'] at h
    rcases List.mem_cons.1 hk with rfl | hk
    · have : (ps.any fun p => p.eqb κ) = true := List.any_eq_true.2 ⟨κ, hm, Loc.eqb_self κ⟩
      rw [h.1] at this; cases this
    · exact pinB_eq h.2 κ hk hm
theorem zE {ops l : List Oper} {o : Oper} {m' : Store} {fr : List Loc} {K : Store → Prop} (hT : TabOk P tab) (h : evS tab n ops o m = some (fr, m')) (hf : (freshB fr m && pinB fr G.pins) = true) (k : Sq P G n ops l m' K) : Sq P G n ops (o :: l) m K := by
  unfold evS at h
  split at h
  · rename_i fr' rs ws he
    rw [appS_eq] at h
    obtain ⟨rfl, rfl⟩ : fr' = fr ∧ ws ++ m = m' := by simpa using h
    obtain ⟨h1, h2⟩ := evG_ok hT he
    rw [Bool.and_eq_true] at hf
    exact Sq.step (h2 m h1 (freshB_eq hf.1)) (pinB_eq hf.2) k
  · cases h
def Sub (m' m : Store) : Prop := ∀ l v, lk m' l = some v → lk m l = some v
theorem RelX.sub {Γ : Ctx} {a : Act} {w : World} (h : RelX P Γ n m a w) {m' : Store} (hs : Sub m' m) : RelX P Γ n m' a w := by
  obtain ⟨M, Ow, hr⟩ := h; exact ⟨M, Ow, hr.sub hs⟩
def SubL : Store → Store → Prop
  | [], _ => True
  | (l, v) :: r, m => lk m l = some v ∧ SubL r m
theorem SubL.sub : ∀ {m' m : Store}, SubL m' m → Sub m' m
  | (l, v) :: r, m, h, l', v', hl => by
    rw [lk_cons] at hl
    split at hl
    · rename_i e; subst e; obtain rfl := Option.some.inj hl; exact h.1
    · exact SubL.sub h.2 l' v' hl
theorem Sub.app {H m : Store} : ∀ {l : Store}, SubL l m → (∀ κ v, lk H κ = some v → lk m κ = some v) → Sub (l ++ H) m
  | [], _, hH => hH
  | (k, u) :: r, h, hH => by
    intro l v hl
    rw [List.cons_append, lk_cons] at hl
    split at hl
    · rename_i e; subst e; obtain rfl := Option.some.inj hl; exact h.1
    · exact Sub.app h.2 hH l v hl
def Tr (P : Program) (G : Env) (n : Nat) (c : Code) (m : Store) (Q : Exit → Store → Prop) : Prop :=
  ∀ (Γ : Ctx), G.ok Γ → ∀ (a : Act) (w : World), RelX P Γ n m a w → c.wpIn (FW Γ.rd) 0 P (fun e a' w' => ∃ m', Q e m' ∧ RelX P Γ n m' a' w') a w
def thenQ (K : Store → Prop) (Q : Exit → Store → Prop) : Exit → Store → Prop
  | .normal, m => K m
  | e, m => Q e m
def blockQ (id : Nat) (Q : Exit → Store → Prop) : Exit → Store → Prop
  | .exit id', m => match Nat.beq id' id with
    | true => Q .normal m
    | false => Q (.exit id') m
  | e, m => Q e m
section
variable {Q : Exit → Store → Prop}
theorem Tr.sub {c : Code} {m' : Store} (hs : SubL m' m) (h : Tr P G n c m' Q) : Tr P G n c m Q := fun Γ hΓ a w hr => h Γ hΓ a w (hr.sub hs.sub)
theorem zS {x y : Code} (h : Tr P G n x m (thenQ (fun m' => Tr P G n y m' Q) Q)) : Tr P G n (.seq x y) m Q := by
  intro Γ hΓ a w hr
  refine wpIn_seq (Go.wpIn_mono (h Γ hΓ a w hr) fun e a' w' hq => ?_)
  obtain ⟨m', hq, hr'⟩ := hq
  cases e with
  | normal => exact hq Γ hΓ a' w' hr'
  | _ => exact ⟨m', hq, hr'⟩
theorem zR {id : Nat} {l : List Oper} (h : Sq P G n l l m (fun m' => Q .normal m')) : Tr P G n (.region id l.toArray false) m Q := fun Γ hΓ a w hr =>
  wpIn_region_lit (h Γ hΓ a w hr _ fun m' a' w' hq hr' => ⟨m', hq, hr'⟩)
theorem zC {t : Nat} {x y : Code} {b : Bool} (hv : lk m (.s t) = some (.tr (.sc (.bool b)))) (hx : b = true → Tr P G n x m Q) (hy : b = false → Tr P G n y m Q) : Tr P G n (.cond (.tmp t) x y) m Q := by
  intro Γ hΓ a w hr
  obtain ⟨M, Ow, hr'⟩ := hr
  have e := (sc_eval (P := P) (x := .tmp t) (Γ := Γ) (hr'.slot t _ hv)).1
  refine wpIn_cond e ?_
  cases b with
  | true => exact hx rfl Γ hΓ a w ⟨M, Ow, hr'⟩
  | false => exact hy rfl Γ hΓ a w ⟨M, Ow, hr'⟩
theorem zB {id : Nat} {c : Code} (h : Tr P G n c m (blockQ id Q)) : Tr P G n (.block id c) m Q := by
  intro Γ hΓ a w hr
  refine wpIn_block (Go.wpIn_mono (h Γ hΓ a w hr) fun e a' w' hq => ?_)
  obtain ⟨m', hq, hr'⟩ := hq
  cases e with
  | exit id' =>
    simp only [blockQ] at hq
    simp only [Exit.inBlock]
    split
    · rename_i e; subst e
      have : Nat.beq id' id' = true := by simp
      rw [this] at hq; exact ⟨m', hq, hr'⟩
    · rename_i e
      have : Nat.beq id' id = false := by
        cases hb : Nat.beq id' id with
        | false => rfl
        | true => exact absurd (Nat.eq_of_beq_eq_true hb) e
      rw [this] at hq; exact ⟨m', hq, hr'⟩
  | _ => exact ⟨m', hq, hr'⟩
theorem zK (h : Q .normal m) : Tr P G n .skip m Q := fun Γ hΓ a w hr => wpIn_skip ⟨m, h, hr⟩
theorem Tr.label {l : Nat} (h : Q .normal m) : Tr P G n (.label l) m Q := fun Γ hΓ a w hr => wpIn_label ⟨m, h, hr⟩
theorem Tr.exit {id : Nat} (h : Q (.exit id) m) : Tr P G n (.exit id) m Q := fun Γ hΓ a w hr => wpIn_exit ⟨m, h, hr⟩
theorem Tr.goto {l : Nat} (h : Q (.goto l) m) : Tr P G n (.goto l) m Q := fun Γ hΓ a w hr => wpIn_goto ⟨m, h, hr⟩
theorem zZ (h : Q .ret m) : Tr P G n .ret m Q := fun Γ hΓ a w hr => wpIn_ret ⟨m, h, hr⟩
theorem Tr.mono {c : Code} {Q' : Exit → Store → Prop} (h : Tr P G n c m Q) (hq : ∀ e m, Q e m → Q' e m) : Tr P G n c m Q' := fun Γ hΓ a w hr =>
  Go.wpIn_mono (h Γ hΓ a w hr) fun e a' w' ⟨m', h1, h2⟩ => ⟨m', hq _ _ h1, h2⟩
theorem least {p : Nat → Prop} (h : ∃ k, p k) : ∃ k, p k ∧ ∀ j, p j → k ≤ j := by
  obtain ⟨k, hk⟩ := h
  induction k using Nat.strongRecOn with
  | _ k ih =>
    by_cases h : ∃ j, j < k ∧ p j
    · obtain ⟨j, hj, hp⟩ := h; exact ih j hj hp
    · exact ⟨k, hk, fun j hj => Nat.le_of_not_lt fun hlt => h ⟨j, hlt, hj⟩⟩
theorem Tr.loop {c : Code} (I : Nat → Store → Prop) {k : Nat} {m0 : Store} (h0 : I k m0) (hs : Sub m0 m)
    (round : ∀ k m, I k m → Tr P G n c m (thenQ (fun m' => ∃ k' m'', k' < k ∧ I k' m'' ∧ Sub m'' m') Q)) : Tr P G n (.loop c) m Q := by
  intro Γ hΓ a w hr
  have hr := hr.sub hs
  let J : Nat → Act → World → Prop := fun k a w => ∃ m, I k m ∧ RelX P Γ n m a w
  have main : ∀ k, ∀ a w, J k a w → (Code.loop c).wpIn (FW Γ.rd) 0 P (fun e a' w' => ∃ m', Q e m' ∧ RelX P Γ n m' a' w') a w := by
    intro k a w hj
    classical
    let μ : Act → World → Nat := fun a w => if h : ∃ k, J k a w then (least h).choose else 0
    refine wpIn_loop (fun a w => ∃ k, J k a w) μ ⟨k, hj⟩ fun a w hI => ?_
    have hμ : μ a w = (least hI).choose := dif_pos hI
    obtain ⟨m, hm, hrm⟩ := (least hI).choose_spec.1
    refine Go.wpIn_mono (round _ m hm Γ hΓ a w hrm) fun e a' w' hq => ?_
    obtain ⟨m', hq, hr'⟩ := hq
    cases e with
    | normal =>
      obtain ⟨k', m'', hk, hI', hs'⟩ := hq
      have hex : ∃ k, J k a' w' := ⟨k', m'', hI', hr'.sub hs'⟩
      refine ⟨hex, ?_⟩
      have : μ a' w' = (least hex).choose := dif_pos hex
      rw [this, hμ]
      exact Nat.lt_of_le_of_lt ((least hex).choose_spec.2 _ ⟨m'', hI', hr'.sub hs'⟩) hk
    | _ => exact ⟨m', hq, hr'⟩
  exact main k a w ⟨m0, h0, hr⟩
theorem Tr.loopS {ι : Type} {c : Code} (S : ι → Store) (μ : ι → Nat) (inv : ι → Prop) (i0 : ι) (h0 : inv i0) (hs : Sub (S i0) m)
    (round : ∀ i, inv i → Tr P G n c (S i) (thenQ (fun m' => ∃ j, inv j ∧ μ j < μ i ∧ Sub (S j) m') Q)) : Tr P G n (.loop c) m Q := by
  refine Tr.loop (fun k m => ∃ i, inv i ∧ k = μ i ∧ m = S i) ⟨i0, h0, rfl, rfl⟩ hs ?_
  rintro k m ⟨i, hi, rfl, rfl⟩
  refine (round i hi).mono fun e m hq => ?_
  cases e with
  | normal => obtain ⟨j, h1, h2, h3⟩ := hq; exact ⟨μ j, S j, h2, ⟨j, h1, rfl, rfl⟩, h3⟩
  | _ => exact hq
end
end
end Go.Lg

set_option linter.unusedVariables false
set_option linter.unusedSimpArgs false
namespace Go.Lg
open Go Go.RowKit
structure CPre (P : Program) (M : Nat → Nat → Prop) (Ow : Loc → Nat → Option Nat) (args : List AV) (H : Store) (cargs : Array Value) (w : World) : Prop where
  size : cargs.size = args.length
  arg : ∀ (i : Nat) (x : AV) (v : Value), args[i]? = some x → cargs[i]? = some v → VRel w M (fun κ => Ow κ 0) x v
  blk : ∀ κ v, lk H κ = some v → κ.isBlk = true ∧ BRel P w M Ow κ v
  only : ∀ l i b, Ow l i = some b → ∃ j, l = .e j
  inj : ∀ l i l' i' b, Ow l i = some b → Ow l' i' = some b → l = l' ∧ i = i'
  lt : ∀ l i b, Ow l i = some b → b < w.heap.size
  mlt : ∀ b o, M b o → b < w.heap.size
structure CPost (P : Program) (M : Nat → Nat → Prop) (R : AV → Prop) (w : World) (cv : Value) (w' : World) : Prop where
  below : Below w.heap.size w w'
  res : ∃ (M' : Nat → Nat → Prop) (r : AV) (o : Option Nat), R r ∧ (∀ b k, M b k → M' b k) ∧ (∀ b k, M' b k → M b k ∨ w.heap.size ≤ b) ∧ (∀ b k, M' b k → b < w'.heap.size) ∧
    (∀ b, o = some b → w.heap.size ≤ b ∧ b < w'.heap.size) ∧ SRel P w' M' (fun _ _ => none) r cv o
def Callable (P : Program) (f : FuncId) : Prop := ∃ fn, P.funcs[f]? = some fn ∧ (fn.name == "runtime.NumGoroutine") = false ∧ fn.body.isNone = false
def Fn (P : Program) (G : World → Prop) (f : FuncId) (args : List AV) (H : Store) (R : AV → Prop) : Prop :=
  Callable P f ∧ ∀ M Ow w cargs, G w → CPre P M Ow args H cargs w → Calls P f cargs w fun e w' => ∃ cv, e = .returned cv ∧ CPost P M R w cv w'
section
variable {P : Program} {G : World → Prop} {n : Nat} {tab : Tab} {m : Store}
def AV.pure : AV → Bool
  | .tr _ => true
  | .own _ _ => true
  | .raw _ _ _ => true
  | .rtup _ _ _ _ => true
  | .tup xs => pureL xs
  | _ => false
where pureL : List AV → Bool
  | [] => true
  | .tr _ :: r => pureL r
  | _ => false
theorem pureL_tr : ∀ {xs : List AV}, AV.pure.pureL xs = true → ∀ x, x ∈ xs → ∃ t, x = .tr t
  | [], _, x, hx => by cases hx
  | .tr t :: r, h, x, hx => by
    rcases List.mem_cons.1 hx with rfl | hx
    · exact ⟨t, rfl⟩
    · exact pureL_tr (xs := r) (by simpa [AV.pure.pureL] using h) x hx
  | .unk :: _, h, _, _ | .und :: _, h, _, _ | .own _ _ :: _, h, _, _ | .raw _ _ _ :: _, h, _, _ | .rtup _ _ _ _ :: _, h, _, _ | .ptr _ _ :: _, h, _, _ | .sl _ _ _ :: _, h, _, _ | .ep _ _ :: _, h, _, _ | .agg _ :: _, h, _, _ | .tup _ :: _, h, _, _ | .fn _ _ :: _, h, _, _ | .blk _ _ :: _, h, _, _ => by simp [AV.pure.pureL] at h
theorem pure_srel {w : World} {M : Nat → Nat → Prop} {Ow Ow' : Loc → Nat → Option Nat} {v : AV} {cv : Value} {o : Option Nat} (hp : v.pure = true) (h : SRel P w M Ow v cv o) : SRel P w M Ow' v cv o := by
  cases v with
  | own ty xs => exact h
  | raw ty z xs => exact h
  | rtup ty z xs rest => exact h
  | tr t =>
    have h : VRel w M (fun κ => Ow κ 0) (.tr t) cv := h
    cases h with | tr _ _ h => exact VRel.tr _ _ h
  | tup xs =>
    have h : VRel w M (fun κ => Ow κ 0) (.tup xs) cv := h
    cases h with
    | tup _ cs h1 h2 =>
      refine VRel.tup xs cs h1 fun i x v hx hv => ?_
      obtain ⟨t, rfl⟩ := pureL_tr (by simpa [AV.pure] using hp) x (List.mem_of_getElem? hx)
      have := h2 i _ v hx hv
      cases this with | tr _ _ h => exact .tr _ _ h
  | _ => cases hp
def res1 (tab : Tab) (m : Store) : ResultVar → Option AV
  | .tmp t => match lk m (.s t) with
    | some v => some v
    | none => none
  | .cell a t => match lk m (.s a), tlk tab t with
    | some (.ptr κ off), some ⟨size, _, kind, _⟩ => match lk m κ with
      | some (.blk ty cells) => match kind.agg with
        | true => match splitO off cells with
          | some (_, rest) => match splitO size rest with
            | some (cs, _) => match packO cs with
              | some ts => some (.tr (.ag ts))
              | none => none
            | none => none
          | none => none
        | false => match splitO off cells with
          | some (_, .tr t :: _) => some (.tr t)
          | some (_, .own _ xs :: _) => some (.tr (.ls xs))
          | _ => none
      | _ => none
    | _, _ => none
def resL (tab : Tab) (m : Store) : List ResultVar → Option (List AV)
  | [] => some []
  | x :: r => match res1 tab m x with
    | some (.tr t) => match resL tab m r with
      | some vs => some (.tr t :: vs)
      | none => none
    | some (.own _ xs) => match resL tab m r with
      | some vs => some (.tr (.ls xs) :: vs)
      | none => none
    | _ => none
def trsO : List AV → Option (List T)
  | [] => some []
  | .tr t :: r => match trsO r with
    | some ts => some (t :: ts)
    | none => none
  | _ => none
theorem trsO_eq : ∀ {vs : List AV} {ts : List T}, trsO vs = some ts → vs = ts.map .tr
  | [], ts, h => by obtain rfl := Option.some.inj h; rfl
  | x :: vs, ts, h => by
    unfold trsO at h
    split at h
    · rename_i e; cases e
    · rename_i t' r' e
      obtain ⟨rfl, rfl⟩ := List.cons.inj e
      split at h
      · rename_i ts' h2
        obtain rfl := Option.some.inj h
        rw [trsO_eq h2]; rfl
      · cases h
    · cases h
def resR (tab : Tab) (m : Store) : List ResultVar → Option AV
  | .tmp t :: y :: r => match lk m (.s t) with
    | some (.raw ty z xs) => match resL tab m (y :: r) with
      | some vs => match trsO vs with
        | some (t0 :: ts) => some (.rtup ty z xs (t0 :: ts))
        | _ => none
      | none => none
    | _ => none
  | _ => none
def resO (tab : Tab) (m : Store) (rs : List ResultVar) : Option AV := match rs with
  | [x] => match res1 tab m x with
    | some v => match v.pure with
      | true => some v
      | false => none
    | none => none
  | rs => match resR tab m rs with
    | some v => some v
    | none => match resL tab m rs with
      | some vs => some (.tup vs)
      | none => none
def resV : ResultVar → Array Value → Sem Value
  | .tmp t, tmps => pure (tmps.getD t undef)
  | .cell a t, tmps => do loadVar t (← asAddr (tmps.getD a undef))
theorem res1_ok (hT : TabOk P tab) {x : ResultVar} {v : AV} (h : res1 tab m x = some v) {Γ : Ctx} {M : Nat → Nat → Prop} {Ow : Loc → Nat → Option Nat} {a : Act} {w : World} (hr : Rel P Γ M Ow n m a w) :
    ∃ cv, (resV x a.tmps).run P w = .ok cv w ∧ ∃ o, SRel P w M Ow v cv o ∧ ∀ b, o = some b → ∃ l i, (∀ j, l ≠ .e j) ∧ Ow l i = some b := by
  unfold res1 at h
  split at h
  · rename_i t
    split at h
    · rename_i u hu
      obtain rfl := Option.some.inj h
      exact ⟨_, rfl, _, hr.slot t _ hu, fun b hb => ⟨_, _, (fun j e => by cases e), hb⟩⟩
    · cases h
  · rename_i ad t
    split at h
    · rename_i κ off size by' kind zs ha ht
      have hq : VRel w M (fun κ => Ow κ 0) (.ptr κ off) (a.tmps.getD ad undef) := hr.slot ad _ ha
      obtain ⟨b, hk, hb, hv⟩ : ∃ b, κ.isBlk = true ∧ Ow κ 0 = some b ∧ a.tmps.getD ad undef = .pointer (some ⟨b, off, none⟩) := by
        generalize a.tmps.getD ad undef = q at hq
        cases hq with | ptr _ _ b hk hb => exact ⟨b, hk, hb, rfl⟩
      split at h
      · rename_i ty cells hκ
        obtain ⟨ty0, cells0, b0, cs, e0, ho, hh, hs', hn, h1, hcs⟩ := hr.blk κ _ hk hκ
        obtain ⟨rfl, rfl⟩ : ty = ty0 ∧ cells = cells0 := by injection e0; exact ⟨‹_›, ‹_›⟩
        obtain rfl : b = b0 := by rw [hb] at ho; exact Option.some.inj ho
        split at h
        · rename_i hagg
          split at h
          · rename_i pre rest e1
            split at h
            · rename_i cs' post e2
              split at h
              · rename_i ts e3
                obtain rfl := Option.some.inj h
                obtain ⟨s1, s2⟩ := splitO_eq e1
                obtain ⟨s3, s4⟩ := splitO_eq e2
                obtain ⟨p1, p2⟩ := packO_eq e3
                have hlen : cells.length = off + size + post.length := by rw [s1, s3]; simp [s2, s4]; omega
                have at_ : ∀ (i : Nat), i < size → cells[off + i]? = cs'[i]? := by
                  intro i hi
                  rw [s1, s3, List.getElem?_append_right (by omega), List.getElem?_append_left (by omega)]
                  congr 1; omega
                have lt_ : ∀ {i : Nat} {x : T}, ts[i]? = some x → i < size := by
                  intro i x hx
                  rcases Nat.lt_or_ge i size with h | h
                  · exact h
                  · rw [List.getElem?_eq_none (by omega)] at hx; cases hx
                have hrun := run_loadVar_agg (b := b) (o := off) hT ht hagg (w := w) (cs := (cs.toList.drop off).take size) (by simp; omega) (by
                  intro j v hv
                  rw [List.getElem?_take] at hv
                  split at hv
                  · rw [List.getElem?_drop] at hv
                    simpa [World.cell?, hh] using hv
                  · cases hv)
                refine ⟨.agg ((cs.toList.drop off).take size).toArray, ?_, none, VRel.tr _ _ (.ag _ _ ?_ ?_ ?_), fun b hb => by cases hb⟩
                · simp only [resV, hv]
                  simpa [Instr.loadAt, Instr.sureAddr, asAddr] using hrun
                · simp; omega
                · intro i v hv'
                  rw [List.getElem?_toArray, List.getElem?_take] at hv'
                  split at hv'
                  · rw [List.getElem?_drop, Array.getElem?_toList] at hv'; exact h1 _ v hv'
                  · cases hv'
                · intro i x v hx hv'
                  have hi := lt_ hx
                  rw [List.getElem?_toArray, List.getElem?_take, if_pos hi, List.getElem?_drop, Array.getElem?_toList] at hv'
                  obtain ⟨y, hy, hyd⟩ := p2 i x hx
                  have := deg_vrel (hcs (off + i) y v (by rw [at_ i hi]; exact hy) hv')
                  rw [hyd] at this
                  cases this with | tr _ _ h => exact h
              · cases h
            · cases h
          · cases h
        · rename_i hagg
          have one : ∀ {y : AV} {pre rest : List AV} {t' : T}, splitO off cells = some (pre, y :: rest) → y.deg = .tr t' → ∃ cv, (resV (.cell ad t) a.tmps).run P w = .ok cv w ∧ ∃ o, SRel P w M Ow (.tr t') cv o ∧ ∀ b, o = some b → ∃ l i, (∀ j, l ≠ .e j) ∧ Ow l i = some b := by
            intro y pre rest t' e1 hyd
            obtain ⟨s1, s2⟩ := splitO_eq e1
            have hy : cells[off]? = some y := by rw [s1, List.getElem?_append_right (by omega)]; simp [s2]
            have hlt : off < cs.size := by rw [hs', s1]; simp; omega
            have hcell : w.cell? ⟨b, off, none⟩ = some cs[off] := by simp [World.cell?, hh, hlt]
            have hrun := run_loadVar_one hT ht hagg hcell
            have := deg_vrel (hcs off y cs[off] hy (by simp [hlt]))
            rw [hyd] at this
            refine ⟨cs[off], ?_, none, this, fun b hb => by cases hb⟩
            simp only [resV, hv]
            simpa [Instr.loadAt, Instr.sureAddr, asAddr] using hrun
          split at h
          · rename_i e1
            obtain rfl := Option.some.inj h
            exact one e1 rfl
          · rename_i e1
            obtain rfl := Option.some.inj h
            exact one e1 rfl
          · cases h
      · cases h
    · cases h
theorem resL_ok (hT : TabOk P tab) {Γ : Ctx} {M : Nat → Nat → Prop} {Ow : Loc → Nat → Option Nat} {a : Act} {w : World} (hr : Rel P Γ M Ow n m a w) : ∀ {rs : List ResultVar} {vs : List AV}, resL tab m rs = some vs →
    ∃ cvs, (rs.mapM fun x => resV x a.tmps).run P w = .ok cvs w ∧ cvs.length = vs.length ∧ rs.length = vs.length ∧ AV.pure.pureL vs = true ∧ ∀ (i : Nat) (x : AV) (v : Value), vs[i]? = some x → cvs[i]? = some v → VRel w M (fun κ => Ow κ 0) x v
  | [], vs, h => by obtain rfl := Option.some.inj h; exact ⟨[], rfl, rfl, rfl, rfl, fun i x v hx => by simp at hx⟩
  | x :: r, vs, h => by
    have fin : ∀ {y : AV} {t : T}, res1 tab m x = some y → y.deg = .tr t → ∀ {vs' : List AV}, resL tab m r = some vs' → vs = .tr t :: vs' → ∃ cvs, ((x :: r).mapM fun x => resV x a.tmps).run P w = .ok cvs w ∧ cvs.length = vs.length ∧ (x :: r).length = vs.length ∧ AV.pure.pureL vs = true ∧ ∀ (i : Nat) (x : AV) (v : Value), vs[i]? = some x → cvs[i]? = some v → VRel w M (fun κ => Ow κ 0) x v := by
      intro y t h1 hy vs' h2 e
      subst e
      obtain ⟨cv, e1, o, e2, _⟩ := res1_ok hT h1 hr
      obtain ⟨cvs, f1, f2, f3, f4, f5⟩ := resL_ok hT hr h2
      have hv := deg_vrel e2
      rw [hy] at hv
      refine ⟨cv :: cvs, by simp [List.mapM_cons, e1, f1], by simp [f2], by simp [f3], by simpa [AV.pure.pureL] using f4, ?_⟩
      intro i u v hu hv'
      cases i with
      | zero => simp at hu hv'; subst hu; subst hv'; exact hv
      | succ i => exact f5 i u v (by simpa using hu) (by simpa using hv')
    simp only [resL] at h
    split at h
    · rename_i t h1
      split at h
      · rename_i vs' h2; exact fin h1 rfl h2 (Option.some.inj h).symm
      · cases h
    · rename_i ty xs h1
      split at h
      · rename_i vs' h2; exact fin h1 rfl h2 (Option.some.inj h).symm
      · cases h
    · cases h
theorem results_eq (fn : Func) (tmps : Array Value) : results fn tmps = (do let vs ← fn.results.mapM (fun x => resV x tmps); pure (if h : vs.size = 1 then vs[0] else .tuple vs)) := by
  unfold results
  congr 1
  · congr 1
    funext x
    cases x <;> rfl
theorem resO_ok (hT : TabOk P tab) {fn : Func} {v : AV} (h : resO tab m fn.results.toList = some v) {Γ : Ctx} {M : Nat → Nat → Prop} {Ow : Loc → Nat → Option Nat} {a : Act} {w : World} (hr : Rel P Γ M Ow n m a w) :
    ∃ cv, (results fn a.tmps).run P w = .ok cv w ∧ v.pure = true ∧ ∃ o, SRel P w M Ow v cv o ∧ ∀ b, o = some b → ∃ l i, (∀ j, l ≠ .e j) ∧ Ow l i = some b := by
  have hm : fn.results.mapM (fun x => resV x a.tmps) = (do let l ← fn.results.toList.mapM (fun x => resV x a.tmps); pure l.toArray : Sem (Array Value)) := by
    rw [Array.mapM_eq_mapM_toList]; rfl
  unfold resO at h
  rw [results_eq, hm]
  split at h
  · rename_i x hx
    split at h
    · rename_i u hu
      split at h
      · rename_i hp
        obtain rfl := Option.some.inj h
        obtain ⟨cv, e1, o, e2, e3⟩ := res1_ok hT hu hr
        refine ⟨cv, ?_, hp, o, e2, e3⟩
        rw [hx]
        simp [List.mapM_cons, e1]
      · cases h
    · cases h
  · rename_i hno
    split at h
    · rename_i v' hv'
      obtain rfl := Option.some.inj h
      unfold resR at hv'
      split at hv'
      · rename_i t y r hres
        split at hv'
        · rename_i ty z xs hx
          split at hv'
          · rename_i vs hvs
            split at hv'
            · rename_i t0 ts hts
              obtain rfl := Option.some.inj hv'
              obtain ⟨cvs, e1, e2, e3, e4, e5⟩ := resL_ok hT hr hvs
              have hvt : vs = (t0 :: ts).map .tr := trsO_eq hts
              have hsl : RawRel P w M ty z xs (a.tmps.getD t undef) (Ow (.s t) 0) := hr.slot t _ hx
              refine ⟨.tuple (#[a.tmps.getD t undef] ++ cvs.toArray), ?_, rfl, Ow (.s t) 0, ⟨_, cvs.toArray, .inl ⟨rfl, by simp⟩, hsl, by rw [List.size_toArray, e2, hvt, List.length_map], ?_⟩, fun b hb => ⟨.s t, 0, (fun j e => by cases e), hb⟩⟩
              · have e1' : ((ResultVar.tmp t :: y :: r).mapM fun x => resV x a.tmps).run P w = .ok (a.tmps.getD t undef :: cvs) w := by
                  have h0 : (resV (.tmp t) a.tmps).run P w = .ok (a.tmps.getD t undef) w := rfl
                  generalize y :: r = yr at e1 ⊢
                  rw [List.mapM_cons]
                  simp [h0, e1]
                rw [hres]
                have hlen : ¬ (a.tmps.getD t undef :: cvs).length = 1 := by
                  rw [List.length_cons, e2, ← e3, List.length_cons]; omega
                generalize ResultVar.tmp t :: y :: r = yr at e1' ⊢
                generalize hcv : a.tmps.getD t undef :: cvs = ws at e1' hlen
                have : (#[a.tmps.getD t undef] ++ cvs.toArray) = ws.toArray := by rw [← hcv]; simp
                rw [this]
                simp [e1', hlen]
              · intro i x u hx hu
                have hx' : vs[i]? = some (.tr x) := by rw [hvt, List.getElem?_map, hx]; rfl
                have := e5 i _ u hx' (by simpa using hu)
                cases this with | tr _ _ h => exact h
            · cases hv'
          · cases hv'
        · cases hv'
      · cases hv'
    rename_i hnoR
    split at h
    · rename_i vs hvs
      obtain rfl := Option.some.inj h
      obtain ⟨cvs, e1, e2, e3, e4, e5⟩ := resL_ok hT hr hvs
      refine ⟨.tuple cvs.toArray, ?_, by simpa [AV.pure] using e4, none, VRel.tup vs _ (by simp [e2]) (fun i x v hx hv => e5 i x v hx (by simpa using hv)), fun b hb => by cases hb⟩
      have hlen : ¬ cvs.length = 1 := by
        rw [e2, ← e3]
        intro h1
        obtain ⟨x, hx⟩ := List.length_eq_one_iff.1 h1
        exact hno x hx
      simp [e1, hlen]
    · cases h
def retQ (tab : Tab) (res : List ResultVar) (R : AV → Prop) : Exit → Store → Prop
  | .ret, m => ∃ r, resO tab m res = some r ∧ R r
  | .normal, m => ∃ r, resO tab m res = some r ∧ R r
  | _, _ => False
def entryS : List AV → Nat → Store → Store
  | [], _, H => H
  | x :: r, k, H => (.s k, x) :: entryS r (k + 1) H
theorem lk_entry {H : Store} (hH : ∀ κ v, lk H κ = some v → κ.isBlk = true) : ∀ {args : List AV} {k t : Nat} {v : AV}, lk (entryS args k H) (.s t) = some v → k ≤ t ∧ args[t - k]? = some v
  | [], k, t, v, h => by have := hH _ _ h; cases this
  | x :: r, k, t, v, h => by
    simp only [entryS] at h
    rw [lk_cons] at h
    split at h
    · rename_i e
      obtain rfl : k = t := by injection e
      obtain rfl := Option.some.inj h
      simp
    · rename_i e
      obtain ⟨h1, h2⟩ := lk_entry hH h
      refine ⟨by omega, ?_⟩
      obtain ⟨j, hj⟩ : ∃ j, t - k = j + 1 := ⟨t - k - 1, by omega⟩
      rw [hj, List.getElem?_cons_succ, show j = t - (k + 1) by omega]; exact h2
theorem lk_entry_blk {H : Store} {κ : Loc} (hk : κ.isBlk = true) : ∀ {args : List AV} {k : Nat}, lk (entryS args k H) κ = lk H κ
  | [], k => rfl
  | x :: r, k => by
    simp only [entryS]
    rw [lk_ne _ _ (fun e => by rw [← e] at hk; cases hk), lk_entry_blk hk]
theorem Fn.of {f : FuncId} {fn : Func} {c : Code} {args : List AV} {H : Store} {R : AV → Prop} (hT : TabOk P tab) (hf : P.funcs[f]? = some fn) (hb : fn.body = some c) (hname : (fn.name == "runtime.NumGoroutine") = false)
    (hargs : args.length ≤ fn.ntmps) (hn : fn.ntmps = n) (hH : ∀ κ v, lk H κ = some v → κ.isBlk = true) (hst : ∀ w w', G w → Below w.heap.size w w' → G w') (h : Tr P ⟨G, []⟩ n c (entryS args 0 H) (retQ tab fn.results.toList R)) : Fn P G f args H R := by
  subst hn
  refine ⟨⟨fn, hf, hname, by rw [hb]; rfl⟩, fun M Ow w cargs hgw hp => ?_⟩
  refine (callsIn_wide (n := 0)).1 (callsIn_of_wp_marks hf hb trivial ?_ rfl)
  let Γ : Ctx := ⟨w, fun _ => False, M, fun _ => True, G, fun w' hf => hst w w' hgw ⟨hf.os, hf.tape, hf.output, hf.size, fun k hk => hf.block k hk (fun h => h)⟩, [], none, (fun l h => by cases h), fun _ => none, ⟨w, hgw, fun b h => h.elim, Nat.le_refl _⟩⟩
  have hsz : cargs.size ≤ fn.ntmps := by rw [hp.size]; exact hargs
  have hr : RelX P Γ fn.ntmps (entryS args 0 H) { tmps := cargs ++ Array.replicate (fn.ntmps - cargs.size) undef, defers := [] } w := by
    refine ⟨M, Ow, {
      size := by simp; omega
      defers := ⟨[], rfl, List.nodup_nil, fun D h => by cases h⟩
      slot := ?_
      blk := ?_
      inj := hp.inj
      lt := hp.lt
      mine := fun l i b hb => by obtain ⟨j, e⟩ := hp.only l i b hb; exact .inr (.inr ⟨j, e, trivial⟩)
      mlt := hp.mlt
      mold := fun b o h => h
      mnew := fun b o h => .inl h
      pin := fun _ _ _ h => nomatch h
      fr := ⟨rfl, rfl, rfl, Nat.le_refl _, fun _ _ _ => rfl, fun b cs ty z h => ⟨cs, h, rfl⟩, fun _ _ _ => rfl⟩ }⟩
    · intro t v hv
      obtain ⟨_, h2⟩ := lk_entry hH hv
      simp only [Nat.sub_zero] at h2
      have hlt : t < cargs.size := by
        rw [hp.size]
        rcases Nat.lt_or_ge t args.length with h | h
        · exact h
        · rw [List.getElem?_eq_none h] at h2; cases h2
      have : (cargs ++ Array.replicate (fn.ntmps - cargs.size) undef).getD t undef = cargs[t] := by
        rw [Array.getD_eq_getD_getElem?, Array.getElem?_append_left hlt]; simp [hlt]
      show SRel P w M Ow v ((cargs ++ Array.replicate (fn.ntmps - cargs.size) undef).getD t undef) _
      rw [this]
      exact srel_of (hp.arg t v _ h2 (by simp [hlt])) _
    · intro κ v hk hv
      rw [lk_entry_blk hk] at hv
      exact (hp.blk κ v hv).2
  refine Go.wpIn_mono (F := FW none) (h Γ ⟨rfl, fun κ h => absurd rfl h⟩ _ w hr) fun e a' w' hq => ?_
  obtain ⟨m', hq, M', Ow', hr'⟩ := hq
  have fin : (∃ r, resO tab m' fn.results.toList = some r ∧ R r) → LeavesInM (FW none) 0 P fn a'.tmps (fun e w' => ∃ cv, e = .returned cv ∧ CPost P M R w cv w') a'.defers .returning w' := by
    rintro ⟨r, h1, h2⟩
    obtain ⟨Ds, hd1, hd2, hd3⟩ := hr'.defers
    have key : ∀ (Ds : List Nat) (a' : Act) (w' : World), Rel P Γ M' Ow' fn.ntmps m' a' w' → a'.defers = Ds.map markD → Ds.Nodup → (∀ D, D ∈ Ds → w.heap.size ≤ D ∧ w'.heap[D]? = some (.deferred (some []))) →
        LeavesInM (FW none) 0 P fn a'.tmps (fun e w' => ∃ cv, e = .returned cv ∧ CPost P M R w cv w') (Ds.map markD) .returning w' := by
      intro Ds
      induction Ds with
      | nil =>
        intro a' w' hr' hd _ _
        obtain ⟨cv, e1, e2, o, e3, e4⟩ := resO_ok hT h1 hr'
        refine ⟨cv, e1, cv, rfl, ⟨⟨hr'.fr.os, hr'.fr.tape, hr'.fr.output, hr'.fr.size, fun k hk => hr'.fr.block k hk (fun h => h)⟩, M', r, o, h2, hr'.mold, ?_, hr'.mlt, ?_, pure_srel e2 e3⟩⟩
        · intro b k hb
          rcases hr'.mnew b k hb with h | h | h
          · exact .inl h
          · exact h.elim
          · exact .inr h
        · intro b hb
          obtain ⟨l, i, hl, hli⟩ := e4 b hb
          rcases hr'.mineL hl hli with h | h
          · exact h.elim
          · exact ⟨h, hr'.lt _ _ _ hli⟩
      | cons D Ds ih =>
        intro a' w' hr' hd hn hD
        refine ⟨by simp, .inl ⟨D, _, rfl, run_takeDeferred (hD D (List.mem_cons_self ..)).2, ?_⟩⟩
        have hr2 := hr'.drop hn hD
        rw [List.append_nil] at hr2
        exact ih { a' with defers := Ds.map markD } _ hr2 rfl (List.nodup_cons.1 hn).2 (fun d hd => ⟨(hD d (List.mem_cons_of_mem _ hd)).1, (World.putObj_heap_other (fun (e : d = D) => (List.nodup_cons.1 hn).1 (by rw [← e]; exact hd))).trans (hD d (List.mem_cons_of_mem _ hd)).2⟩)
    rw [List.append_nil] at hd1
    rw [hd1]
    exact key Ds a' w' hr' hd1 hd2 hd3
  cases e with
  | ret => exact fin hq
  | normal => exact fin hq
  | _ => exact hq.elim
end
end Go.Lg

set_option linter.unusedVariables false
set_option linter.unusedSimpArgs false
namespace Go.Lg
open Go Go.RowKit
def idx : List Loc → Loc → Option Nat
  | [], _ => none
  | k :: r, l => match k.eqb l with
    | true => some 0
    | false => match idx r l with
      | some j => some (j + 1)
      | none => none
theorem idx_eq : ∀ {ks : List Loc} {κ : Loc} {j : Nat}, idx ks κ = some j → ks[j]? = some κ
  | k :: r, κ, j, h => by
    simp only [idx] at h
    split at h
    · rename_i e
      obtain rfl := Option.some.inj h
      rw [Loc.eqb_iff.1 e]; rfl
    · split at h
      · rename_i j' e
        obtain rfl := Option.some.inj h
        simpa using idx_eq e
      · cases h
mutual
def AV.ren (ks : List Loc) : AV → Option AV
  | .ptr κ off => match idx ks κ with
    | some j => some (.ptr (.e j) off)
    | none => some .unk
  | .sl κ len cap => match idx ks κ with
    | some j => some (.sl (.e j) len cap)
    | none => some .unk
  | .own _ xs => some (.tr (.ls xs))
  | .raw _ _ _ => some .unk
  | .rtup _ _ _ _ => some .unk
  | .agg xs => match renL ks xs with
    | some ys => some (.agg ys)
    | none => none
  | .tup xs => match renL ks xs with
    | some ys => some (.tup ys)
    | none => none
  | .fn f xs => match renL ks xs with
    | some ys => some (.fn f ys)
    | none => none
  | .tr t => some (.tr t)
  | .ep cs o => some (.ep cs o)
  | .unk => some .unk
  | .und => some .und
  | .blk _ _ => none
def renL (ks : List Loc) : List AV → Option (List AV)
  | [] => some []
  | x :: xs => match x.ren ks with
    | some y => match renL ks xs with
      | some ys => some (y :: ys)
      | none => none
    | none => none
end
theorem renL_at {ks : List Loc} : ∀ {xs ys : List AV}, renL ks xs = some ys → ys.length = xs.length ∧ ∀ (i : Nat) (y : AV), ys[i]? = some y → ∃ x, xs[i]? = some x ∧ x.ren ks = some y
  | [], ys, h => by obtain rfl := Option.some.inj h; simp
  | x :: xs, ys, h => by
    simp only [renL] at h
    split at h
    · rename_i y e1
      split at h
      · rename_i ys' e2
        obtain rfl := Option.some.inj h
        obtain ⟨h1, h2⟩ := renL_at e2
        refine ⟨by simp [h1], fun i z hz => ?_⟩
        cases i with
        | zero => simp at hz; subst hz; exact ⟨x, rfl, e1⟩
        | succ i => simpa using h2 i z (by simpa using hz)
      · cases h
    · cases h
def owc (ks : List Loc) (Ow : Loc → Nat → Option Nat) : Loc → Nat → Option Nat
  | .e j, i => (ks[j]?).bind fun κ => Ow κ i
  | _, _ => none
theorem ren_vrel {ks : List Loc} {w : World} {M : Nat → Nat → Prop} {Ow : Loc → Nat → Option Nat} {x : AV} {v : Value} (h : VRel w M (fun κ => Ow κ 0) x v) : ∀ {y : AV}, x.ren ks = some y → VRel w M (fun κ => owc ks Ow κ 0) y v := by
  induction h with
  | unk v => intro y hy; obtain rfl := Option.some.inj hy; exact .unk v
  | und => intro y hy; obtain rfl := Option.some.inj hy; exact .und
  | tr t v h => intro y hy; obtain rfl := Option.some.inj hy; exact .tr t v h
  | ptr κ off b hk hb =>
    intro y hy
    simp only [AV.ren] at hy
    split at hy
    · rename_i j e
      obtain rfl := Option.some.inj hy
      refine .ptr _ off b rfl ?_
      simp only [owc, idx_eq e, Option.bind_some]; exact hb
    · obtain rfl := Option.some.inj hy; exact .unk _
  | sl κ len cap b hk hb hc =>
    intro y hy
    simp only [AV.ren] at hy
    split at hy
    · rename_i j e
      obtain rfl := Option.some.inj hy
      refine .sl _ len cap b rfl ?_ hc
      simp only [owc, idx_eq e, Option.bind_some]; exact hb
    · obtain rfl := Option.some.inj hy; exact .unk _
  | ep cs off b o f h1 h2 h3 h4 => intro y hy; obtain rfl := Option.some.inj hy; exact .ep cs off b o f h1 h2 h3 h4
  | agg xs cs h1 h2 h3 ih =>
    intro y hy
    simp only [AV.ren] at hy
    split at hy
    · rename_i ys e
      obtain rfl := Option.some.inj hy
      obtain ⟨r1, r2⟩ := renL_at e
      refine .agg _ _ (by rw [h1, r1]) h2 fun i z v hz hv => ?_
      obtain ⟨x, hx, hxz⟩ := r2 i z hz
      exact ih i x v hx hv hxz
    · cases hy
  | tup xs cs h1 h3 ih =>
    intro y hy
    simp only [AV.ren] at hy
    split at hy
    · rename_i ys e
      obtain rfl := Option.some.inj hy
      obtain ⟨r1, r2⟩ := renL_at e
      refine .tup _ _ (by rw [h1, r1]) fun i z v hz hv => ?_
      obtain ⟨x, hx, hxz⟩ := r2 i z hz
      exact ih i x v hx hv hxz
    · cases hy
  | fn f xs cs h1 h3 ih =>
    intro y hy
    simp only [AV.ren] at hy
    split at hy
    · rename_i ys e
      obtain rfl := Option.some.inj hy
      obtain ⟨r1, r2⟩ := renL_at e
      refine .fn f _ _ (by rw [h1, r1]) fun i z v hz hv => ?_
      obtain ⟨x, hx, hxz⟩ := r2 i z hz
      exact ih i x v hx hv hxz
    · cases hy
def renC (ks : List Loc) : List AV → Option (List AV)
  | [] => some []
  | .own ty xs :: r => match renC ks r with
    | some ys => some (.own ty xs :: ys)
    | none => none
  | .raw _ _ _ :: r => match renC ks r with
    | some ys => some (.unk :: ys)
    | none => none
  | .rtup _ _ _ _ :: r => match renC ks r with
    | some ys => some (.unk :: ys)
    | none => none
  | x :: r => match x.ren ks with
    | some y => match renC ks r with
      | some ys => some (y :: ys)
      | none => none
    | none => none
theorem renC_at {ks : List Loc} {P : Program} {w : World} {M : Nat → Nat → Prop} {Ow : Loc → Nat → Option Nat} : ∀ {xs ys : List AV}, renC ks xs = some ys → ys.length = xs.length ∧
    ∀ (i : Nat) (y : AV), ys[i]? = some y → ∃ x, xs[i]? = some x ∧ ∀ v o, SRel P w M Ow x v o → SRel P w M (owc ks Ow) y v o
  | [], ys, h => by obtain rfl := Option.some.inj h; simp
  | x :: xs, ys, h => by
    have gen : ∀ {y : AV} {ys' : List AV}, (∀ v o, SRel P w M Ow x v o → SRel P w M (owc ks Ow) y v o) → renC ks xs = some ys' → ys = y :: ys' → ys.length = (x :: xs).length ∧
        ∀ (i : Nat) (y : AV), ys[i]? = some y → ∃ z, (x :: xs)[i]? = some z ∧ ∀ v o, SRel P w M Ow z v o → SRel P w M (owc ks Ow) y v o := by
      intro y ys' hy e2 e
      subst e
      obtain ⟨h1, h2⟩ := renC_at (P := P) (w := w) (M := M) (Ow := Ow) e2
      refine ⟨by simp [h1], fun i z hz => ?_⟩
      cases i with
      | zero => simp at hz; subst hz; exact ⟨x, rfl, hy⟩
      | succ i => simpa using h2 i z (by simpa using hz)
    unfold renC at h
    split at h
    · rename_i e; cases e
    · rename_i ty xs0 r e
      obtain ⟨rfl, rfl⟩ := List.cons.inj e
      split at h
      · rename_i ys' e2
        exact gen (y := .own ty xs0) (fun v o h => h) e2 (Option.some.inj h).symm
      · cases h
    · rename_i ty z xs0 r e
      obtain ⟨rfl, rfl⟩ := List.cons.inj e
      split at h
      · rename_i ys' e2
        exact gen (y := .unk) (fun v o h => VRel.unk v) e2 (Option.some.inj h).symm
      · cases h
    · rename_i ty z xs0 rs0 r e
      obtain ⟨rfl, rfl⟩ := List.cons.inj e
      split at h
      · rename_i ys' e2
        exact gen (y := .unk) (fun v o h => VRel.unk v) e2 (Option.some.inj h).symm
      · cases h
    · rename_i x0 r hno hno2 hno3 e
      obtain ⟨rfl, rfl⟩ := List.cons.inj e
      split at h
      · rename_i y e1
        split at h
        · rename_i ys' e2
          refine gen (fun v o h => srel_of (ren_vrel (vrel_of h ?_) e1) o) e2 (Option.some.inj h).symm
          cases x with
          | own ty xs0 => exact absurd rfl (hno ty xs0)
          | raw ty z xs0 => exact absurd rfl (hno2 ty z xs0)
          | rtup ty z xs0 rs0 => exact absurd rfl (hno3 ty z xs0 rs0)
          | _ => rfl
        · cases h
      · cases h
mutual
def AV.locs : AV → List Loc → List Loc
  | .ptr κ _, acc => match idx acc κ with
    | some _ => acc
    | none => acc ++ [κ]
  | .agg xs, acc => locsL xs acc
  | .tup xs, acc => locsL xs acc
  | .fn _ xs, acc => locsL xs acc
  | _, acc => acc
def locsL : List AV → List Loc → List Loc
  | [], acc => acc
  | x :: xs, acc => locsL xs (x.locs acc)
end
def nodupB : List Loc → Bool
  | [] => true
  | k :: r => (match idx r k with
    | some _ => false
    | none => true) && nodupB r
theorem idx_none : ∀ {ks : List Loc} {κ : Loc}, idx ks κ = none → κ ∉ ks
  | [], κ, _, h => by cases h
  | k :: r, κ, hn, h => by
    simp only [idx] at hn
    split at hn
    · cases hn
    · rename_i e
      split at hn
      · cases hn
      · rename_i e2
        rcases List.mem_cons.1 h with rfl | h
        · rw [Loc.eqb_self] at e; cases e
        · exact idx_none e2 h
theorem nodupB_inj : ∀ {ks : List Loc}, nodupB ks = true → ∀ {i j : Nat} {κ : Loc}, ks[i]? = some κ → ks[j]? = some κ → i = j
  | k :: r, h, i, j, κ, hi, hj => by
    simp only [nodupB, Bool.and_eq_true] at h
    have hk : k ∉ r := by
      have := h.1
      split at this
      · cases this
      · rename_i e; exact idx_none e
    cases i with
    | zero =>
      cases j with
      | zero => rfl
      | succ j => simp at hi hj; subst hi; exact absurd (List.mem_of_getElem? hj) hk
    | succ i =>
      cases j with
      | zero => simp at hi hj; subst hj; exact absurd (List.mem_of_getElem? hi) hk
      | succ j => rw [nodupB_inj h.2 (i := i) (j := j) (κ := κ) (by simpa using hi) (by simpa using hj)]
def hpOf (ks : List Loc) (m : Store) : Nat → List Loc → Option Store
  | _, [] => some []
  | j, κ :: r => match κ.isBlk, lk m κ with
    | true, some (.blk ty cells) => match renC ks cells with
      | some cells' => match hpOf ks m (j + 1) r with
        | some H => some ((.e j, .blk ty cells') :: H)
        | none => none
      | none => none
    | _, _ => none
theorem hpOf_lk {ks : List Loc} {m : Store} : ∀ {r : List Loc} {j0 : Nat} {H : Store}, hpOf ks m j0 r = some H → ∀ {κ : Loc} {v : AV}, lk H κ = some v →
    ∃ j κ' ty cells cells', κ = .e (j0 + j) ∧ r[j]? = some κ' ∧ κ'.isBlk = true ∧ lk m κ' = some (.blk ty cells) ∧ renC ks cells = some cells' ∧ v = .blk ty cells'
  | [], j0, H, h, κ, v, hv => by obtain rfl := Option.some.inj h; cases hv
  | κ0 :: r, j0, H, h, κ, v, hv => by
    simp only [hpOf] at h
    split at h
    · rename_i ty cells hb hl
      split at h
      · rename_i cells' hr
        split at h
        · rename_i H' hh
          obtain rfl := Option.some.inj h
          rw [lk_cons] at hv
          split at hv
          · rename_i e
            obtain rfl := Option.some.inj hv
            exact ⟨0, κ0, ty, cells, cells', e.symm, rfl, hb, hl, hr, rfl⟩
          · obtain ⟨j, κ', ty', c1, c2, e1, e2, e3, e4, e5, e6⟩ := hpOf_lk hh hv
            exact ⟨j + 1, κ', ty', c1, c2, by rw [e1]; congr 1; omega, by simpa using e2, e3, e4, e5, e6⟩
        · cases h
      · cases h
    · cases h
def opV (m : Store) : Operand → Option AV
  | .tmp t => lk m (.s t)
  | .const (.slice none 0 0) => some (.tr (.ls []))
  | .const c => cAV c
  | .func f => some (.fn f [])
  | .global _ => none
theorem opV_ok {P : Program} {n : Nat} {m : Store} {x : Operand} {v : AV} (h : opV m x = some v) {Γ : Ctx} {M : Nat → Nat → Prop} {Ow : Loc → Nat → Option Nat} {a : Act} {w : World} (hr : Rel P Γ M Ow n m a w) : ∃ o, SRel P w M Ow v (a.eval x) o := by
  unfold opV at h
  split at h
  · exact ⟨_, hr.slot _ _ h⟩
  · obtain rfl := Option.some.inj h; exact ⟨none, VRel.tr _ _ (.nil none 0)⟩
  · rename_i c hno
    refine ⟨none, ?_⟩
    unfold cAV at h
    split at h <;> first
      | (cases h; done)
      | (obtain rfl := Option.some.inj h
         refine VRel.tr _ _ (.sc _ ?_)
         cases c <;> first | rfl | (simp_all; done))
  · rename_i f
    obtain rfl := Option.some.inj h
    exact ⟨none, VRel.fn f [] #[] rfl (fun i x v hx _ => by simp at hx)⟩
  · cases h
def opsV (m : Store) : List Operand → Option (List AV)
  | [] => some []
  | x :: xs => match opV m x with
    | some v => match opsV m xs with
      | some vs => some (v :: vs)
      | none => none
    | none => none
theorem opsV_ok {P : Program} {n : Nat} {m : Store} : ∀ {xs : List Operand} {vs : List AV}, opsV m xs = some vs → vs.length = xs.length ∧ ∀ {Γ : Ctx} {M : Nat → Nat → Prop} {Ow : Loc → Nat → Option Nat} {a : Act} {w : World}, Rel P Γ M Ow n m a w →
    ∀ (i : Nat) (v : AV) (x : Operand), vs[i]? = some v → xs[i]? = some x → ∃ o, SRel P w M Ow v (a.eval x) o
  | [], vs, h => by obtain rfl := Option.some.inj h; exact ⟨rfl, fun hr i v x hv => by simp at hv⟩
  | x :: xs, vs, h => by
    simp only [opsV] at h
    split at h
    · rename_i v e1
      split at h
      · rename_i vs' e2
        obtain rfl := Option.some.inj h
        obtain ⟨h1, h2⟩ := opsV_ok (P := P) (n := n) e2
        refine ⟨by simp [h1], fun hr i u y hu hy => ?_⟩
        cases i with
        | zero => simp at hu hy; subst hu; subst hy; exact opV_ok e1 hr
        | succ i => exact h2 hr i u y (by simpa using hu) (by simpa using hy)
      · cases h
    · cases h
def gOk (m : Store) (ops : List Oper) (g : Option (Nat × Bool)) : Bool := match g with
  | none => true
  | some (j, want) => match dstN ops j with
    | some g => match lk m (.s g) with
      | some v => match gsays v want with
        | some b => b
        | none => false
      | none => false
    | none => false
def appL : List AV → List AV → Option (List AV)
  | [], r => some r
  | x :: xs, r => match appL xs r with
    | some ys => some (x :: ys)
    | none => none
theorem appL_eq : ∀ {xs r : List AV}, appL xs r = some (xs ++ r)
  | [], r => rfl
  | x :: xs, r => by simp only [appL, appL_eq, List.cons_append]
def evCall (n : Nat) (ops : List Oper) (o : Oper) (m : Store) : Option (FuncId × List AV × Store × Option Nat) := match o.op with
  | .call ⟨.value fo, args, _⟩ => match gOk m ops o.guard with
    | true => match opV m fo with
      | some (.fn f caps) => match opsV m args.toList with
        | some vs => match appL vs caps with
          | some all => match nodupB (locsL all []), renL (locsL all []) all with
            | true, some all' => match hpOf (locsL all []) m 0 (locsL all []) with
              | some H => match o.dst with
                | some d => match Nat.blt d n with
                  | true => some (f, all', H, some d)
                  | false => none
                | none => some (f, all', H, none)
              | none => none
            | _, _ => none
          | none => none
        | none => none
      | _ => none
    | false => none
  | _ => none
def putO (d : Option Nat) (r : AV) (m : Store) : Store := match d with
  | some d => (.s d, r) :: m
  | none => m
section
variable {P : Program} {G : Env} {n : Nat} {m : Store}
theorem zL {ops l : List Oper} {o : Oper} {f : FuncId} {args : List AV} {H : Store} {d : Option Nat} {R : AV → Prop} {K : Store → Prop} (h : evCall n ops o m = some (f, args, H, d)) (hf : Fn P G.st f args H R)
    (k : ∀ r, R r → Sq P G n ops l (putO d r m) K) : Sq P G n ops (o :: l) m K := by
  obtain ⟨dst, op, type, pos, after, guard⟩ := o
  unfold evCall at h
  simp only at h
  split at h
  · rename_i fo cargs ats
    split at h
    · rename_i hg
      split at h
      · rename_i f' caps hfo
        split at h
        · rename_i vs hvs
          rw [appL_eq] at h
          simp only at h
          split at h
          · rename_i all' hnd hren
            split at h
            · rename_i H' hH
              have hd : d = dst ∧ f' = f ∧ all' = args ∧ H' = H ∧ ∀ d', dst = some d' → d' < n := by
                cases dst with
                | none => simp only [Option.some.injEq, Prod.mk.injEq] at h; obtain ⟨h1, h2, h3, h4⟩ := h; exact ⟨h4.symm, h1, h2, h3, fun d' e => by cases e⟩
                | some d0 =>
                  simp only at h
                  split at h
                  · rename_i hlt
                    simp only [Option.some.injEq, Prod.mk.injEq] at h; obtain ⟨h1, h2, h3, h4⟩ := h
                    exact ⟨h4.symm, h1, h2, h3, fun d' e => by obtain rfl := Option.some.inj e; exact Nat.lt_of_succ_le (Nat.le_of_ble_eq_true hlt)⟩
                  · cases h
              obtain ⟨rfl, rfl, rfl, rfl, hdn⟩ := hd
              clear h
              obtain ⟨⟨fn, hfn, hname, hbody⟩, hcalls⟩ := hf
              intro Γ hΓ a w hr Q hQ
              obtain ⟨M, Ow, hr⟩ := hr
              have hw : Region.wanted (⟨d, .call ⟨.value fo, cargs, ats⟩, type, pos, after, guard⟩ : Oper) (yielded ops.toArray a.tmps) = true := by
                unfold gOk at hg
                split at hg
                · simp [Region.wanted]
                · rename_i j want
                  split at hg
                  · rename_i g hgd
                    split at hg
                    · rename_i v hv
                      split at hg
                      · rename_i b hs
                        simp only [Region.wanted]; rw [yielded_of hgd hr hv hs]; exact hg
                      · cases hg
                    · cases hg
                  · cases hg
              -- the values handed in
              obtain ⟨qf, hqf⟩ := opV_ok hfo hr
              have hqf : VRel w M (fun κ => Ow κ 0) (.fn f' caps) (a.eval fo) := hqf
              obtain ⟨cs, hfv, hcsz, hcs⟩ : ∃ cs : Array Value, a.eval fo = .func (.func f') #[] cs ∧ cs.size = caps.length ∧ ∀ (i : Nat) (x : AV) (v : Value), caps[i]? = some x → cs[i]? = some v → VRel w M (fun κ => Ow κ 0) x v := by
                generalize a.eval fo = q at hqf
                cases hqf with | fn _ _ cs h1 h2 => exact ⟨cs, rfl, h1, h2⟩
              obtain ⟨hvl, hvr⟩ := opsV_ok (P := P) (n := n) hvs
              have hrun : (execOp a.eval (⟨d, .call ⟨.value fo, cargs, ats⟩, type, pos, after, guard⟩ : Oper)).run P w = .ok (.enter f' (cargs.map a.eval ++ cs)) w := by
                have hname' : ¬ fn.name = "runtime.NumGoroutine" := by simpa using hname
                have hbody' : ¬ fn.body = none := fun e => by rw [e] at hbody; cases hbody
                simp [execOp, resolve, Deferred.ofValue, hfv, invoke, callFunc, hfn, hname', hbody']
              have hsz : (cargs.map a.eval ++ cs).size = (vs ++ caps).length := by simp [hvl, hcsz]
              have hall : ∀ (i : Nat) (x : AV) (v : Value), (vs ++ caps)[i]? = some x → (cargs.map a.eval ++ cs)[i]? = some v → ∃ o, SRel P w M Ow x v o := by
                intro i x v hx hv
                rcases Nat.lt_or_ge i vs.length with hi | hi
                · rw [List.getElem?_append_left hi] at hx
                  rw [Array.getElem?_append_left (by simp; rw [← Array.length_toList, ← hvl]; exact hi), Array.getElem?_map] at hv
                  obtain ⟨y, hy, rfl⟩ := Option.map_eq_some_iff.1 hv
                  exact hvr hr i x y hx (by simpa using hy)
                · rw [List.getElem?_append_right hi] at hx
                  rw [Array.getElem?_append_right (by simp; rw [← Array.length_toList, ← hvl]; exact hi)] at hv
                  exact ⟨none, srel_of (hcs _ x v hx (by simpa [hvl] using hv)) none⟩
              obtain ⟨r1, r2⟩ := renL_at hren
              have hpre : CPre P M (owc (locsL (vs ++ caps) []) Ow) all' H' (cargs.map a.eval ++ cs) w := {
                size := by rw [hsz, r1]
                arg := by
                  intro i y v hy hv
                  obtain ⟨x, hx, hxy⟩ := r2 i y hy
                  obtain ⟨o, ho⟩ := hall i x v hx hv
                  cases x with
                  | own ty xs =>
                    obtain rfl := Option.some.inj hxy
                    have := deg_vrel ho
                    cases this with | tr _ _ h => exact .tr _ _ h
                  | raw ty z xs =>
                    obtain rfl := Option.some.inj hxy
                    exact .unk _
                  | rtup ty z xs rest =>
                    obtain rfl := Option.some.inj hxy
                    exact .unk _
                  | _ => exact ren_vrel (vrel_of ho rfl) hxy
                blk := by
                  intro κ v hv
                  obtain ⟨j, κ', ty, cells, cells', e1, e2, e3, e4, e5, rfl⟩ := hpOf_lk hH hv
                  subst e1
                  refine ⟨rfl, ?_⟩
                  obtain ⟨ty0, cells0, b, cs0, e0, ho, hh, hs, hn, h1, hc⟩ := hr.blk κ' _ e3 e4
                  obtain ⟨rfl, rfl⟩ : ty = ty0 ∧ cells = cells0 := by injection e0; exact ⟨‹_›, ‹_›⟩
                  obtain ⟨q1, q2⟩ := renC_at (P := P) (w := w) (M := M) (Ow := Ow) e5
                  refine ⟨ty, cells', b, cs0, rfl, by simp only [owc, Nat.zero_add, e2, Option.bind_some]; exact ho, hh, by rw [hs, q1], hn, h1, ?_⟩
                  intro i y u hy hu
                  obtain ⟨x, hx, hxy⟩ := q2 i y hy
                  have := hxy u _ (hc i x u hx hu)
                  simp only [owc, Nat.zero_add, e2, Option.bind_some]
                  exact this
                only := by
                  intro l i b hb
                  cases l with
                  | e j => exact ⟨j, rfl⟩
                  | _ => cases hb
                inj := by
                  intro l i l' i' b hb hb'
                  cases l with
                  | e j =>
                    cases l' with
                    | e j' =>
                      simp only [owc] at hb hb'
                      obtain ⟨κ, hκ, hb⟩ := Option.bind_eq_some_iff.1 hb
                      obtain ⟨κ', hκ', hb'⟩ := Option.bind_eq_some_iff.1 hb'
                      obtain ⟨e1, e2⟩ := hr.inj _ _ _ _ _ hb hb'
                      subst e1
                      exact ⟨by rw [nodupB_inj hnd hκ hκ'], e2⟩
                    | _ => cases hb'
                  | _ => cases hb
                lt := by
                  intro l i b hb
                  cases l with
                  | e j =>
                    simp only [owc] at hb
                    obtain ⟨κ, hκ, hb⟩ := Option.bind_eq_some_iff.1 hb
                    exact hr.lt _ _ _ hb
                  | _ => cases hb
                mlt := hr.mlt }
              have hc := hcalls M _ w _ (hΓ.1 ▸ Γ.stab w hr.fr) hpre
              unfold wpListIn
              rw [if_pos hw]
              refine ⟨fun _ _ => trivial, ?_⟩
              rw [show (FW Γ.rd).round = Γ.rd from rfl, semAt_of Γ.rd hrun (fun d e => by cases e), Oper.uponIn_enter]
              refine ⟨fun h => Bool.noConfusion (show false = true from h), FW.calls (hc.mono ?_)⟩
              rintro e w' ⟨cv, rfl, hb, M', r, o, hR, hM, hN, hL, ho, hs⟩
              have hr' := hr.ext hb hM hN hL
              refine k r hR Γ hΓ _ w' ?_ Q hQ
              cases d with
              | none => exact ⟨M', Ow, hr'⟩
              | some d' =>
                have hd' := hdn d' rfl
                cases r with
                | own ty xs =>
                  refine ⟨M', _, hr'.putown hd' (o := o) hs fun b hb' => ?_⟩
                  obtain ⟨o1, o2⟩ := ho b hb'
                  exact ⟨fun l i e => absurd (hr.lt l i b e) (by omega), o2, .inr (Nat.le_trans hr.fr.size o1)⟩
                | raw ty z xs =>
                  refine ⟨M', _, hr'.putv hd' (x := .raw ty z xs) (o := o) hs (own_refs rfl) fun b hb' => ?_⟩
                  obtain ⟨o1, o2⟩ := ho b hb'
                  exact ⟨fun l i e => absurd (hr.lt l i b e) (by omega), o2, .inr (Nat.le_trans hr.fr.size o1)⟩
                | rtup ty z xs rest =>
                  refine ⟨M', _, hr'.putv hd' (x := .rtup ty z xs rest) (o := o) hs (own_refs rfl) fun b hb' => ?_⟩
                  obtain ⟨o1, o2⟩ := ho b hb'
                  exact ⟨fun l i e => absurd (hr.lt l i b e) (by omega), o2, .inr (Nat.le_trans hr.fr.size o1)⟩
                | _ =>
                  refine ⟨M', Ow, hr'.put hd' ?_⟩
                  exact VRel.mono (vrel_of hs rfl) (fun b k h => ⟨h, rfl⟩) (fun κ b _ _ h => by cases h)
            · cases h
          · cases h
        · cases h
      · cases h
    · cases h
  · cases h
def degA : List AV → Option (List AV)
  | [] => some []
  | .own _ xs :: r => match degA r with
    | some ys => some (.tr (.ls xs) :: ys)
    | none => none
  | .tr t :: r => match degA r with
    | some ys => some (.tr t :: ys)
    | none => none
  | .fn f c :: r => match degA r with
    | some ys => some (.fn f c :: ys)
    | none => none
  | .ptr (.e j) off :: r => match degA r with
    | some ys => some (.ptr (.e j) off :: ys)
    | none => none
  | _ => none
theorem degA_at : ∀ {xs ys : List AV}, degA xs = some ys → ys = xs.map AV.deg
  | [], ys, h => by obtain rfl := Option.some.inj h; rfl
  | x :: r, ys, h => by
    have gen : ∀ {y : AV} {ys' : List AV}, degA r = some ys' → ys = y :: ys' → y = x.deg → ys = (x :: r).map AV.deg := by
      intro y ys' e1 e2 e3; subst e2; subst e3; rw [degA_at e1]; rfl
    unfold degA at h
    split at h
    · rename_i e; cases e
    all_goals first
      | (cases h; done)
      | (rename_i e; obtain ⟨rfl, rfl⟩ := List.cons.inj e
         split at h
         · rename_i ys' e2; exact gen e2 (Option.some.inj h).symm rfl
         · cases h)
def evCallE (n : Nat) (ops : List Oper) (o : Oper) (m : Store) : Option (FuncId × List AV × Option Nat) := match o.op with
  | .call ⟨.value fo, args, _⟩ => match gOk m ops o.guard with
    | true => match opV m fo with
      | some (.fn f caps) => match opsV m args.toList with
        | some vs => match degA vs with
          | some vs' => match appL vs' caps with
            | some all => match o.dst with
              | some d => match Nat.blt d n with
                | true => some (f, all, some d)
                | false => none
              | none => some (f, all, none)
            | none => none
          | none => none
        | none => none
      | _ => none
    | false => none
  | _ => none
def ExtOnly (xs : List AV) : Prop := ∀ x, x ∈ xs → ∀ κ, Refs κ x → ∃ j, κ = .e j
theorem Sq.callE {ops l : List Oper} {o : Oper} {f : FuncId} {args : List AV} {H : Store} {d : Option Nat} {R : AV → Prop} {K : Store → Prop} (h : evCallE n ops o m = some (f, args, d)) (hext : ExtOnly args) (hH : ∀ κ v, lk H κ = some v → (∃ j, κ = .e j) ∧ lk m κ = some v) (hHr : ∀ κ ty cells, lk H κ = some (.blk ty cells) → ExtOnly cells)
    (hf : Fn P G.st f args H R) (k : ∀ r, R r → Sq P G n ops l (putO d r m) K) : Sq P G n ops (o :: l) m K := by
  obtain ⟨dst, op, type, pos, after, guard⟩ := o
  unfold evCallE at h
  simp only at h
  split at h
  · rename_i fo cargs ats
    split at h
    · rename_i hg
      split at h
      · rename_i f' caps hfo
        split at h
        · rename_i vs hvs
          split at h
          · rename_i vs' hdeg
            rw [appL_eq] at h
            simp only at h
            have hd : d = dst ∧ f' = f ∧ vs' ++ caps = args ∧ ∀ d', dst = some d' → d' < n := by
              cases dst with
              | none => simp only [Option.some.injEq, Prod.mk.injEq] at h; obtain ⟨h1, h2, h4⟩ := h; exact ⟨h4.symm, h1, h2, fun d' e => by cases e⟩
              | some d0 =>
                simp only at h
                split at h
                · rename_i hlt
                  simp only [Option.some.injEq, Prod.mk.injEq] at h; obtain ⟨h1, h2, h4⟩ := h
                  exact ⟨h4.symm, h1, h2, fun d' e => by obtain rfl := Option.some.inj e; exact Nat.lt_of_succ_le (Nat.le_of_ble_eq_true hlt)⟩
                · cases h
            obtain ⟨rfl, rfl, rfl, hdn⟩ := hd
            clear h
            obtain ⟨⟨fn, hfn, hname, hbody⟩, hcalls⟩ := hf
            intro Γ hΓ a w hr Q hQ
            obtain ⟨M, Ow, hr⟩ := hr
            have hw : Region.wanted (⟨d, .call ⟨.value fo, cargs, ats⟩, type, pos, after, guard⟩ : Oper) (yielded ops.toArray a.tmps) = true := by
              unfold gOk at hg
              split at hg
              · simp [Region.wanted]
              · rename_i j want
                split at hg
                · rename_i g hgd
                  split at hg
                  · rename_i v hv
                    split at hg
                    · rename_i b hs
                      simp only [Region.wanted]; rw [yielded_of hgd hr hv hs]; exact hg
                    · cases hg
                  · cases hg
                · cases hg
            obtain ⟨qf, hqf⟩ := opV_ok hfo hr
            have hqf : VRel w M (fun κ => Ow κ 0) (.fn f' caps) (a.eval fo) := hqf
            obtain ⟨cs, hfv, hcsz, hcs⟩ : ∃ cs : Array Value, a.eval fo = .func (.func f') #[] cs ∧ cs.size = caps.length ∧ ∀ (i : Nat) (x : AV) (v : Value), caps[i]? = some x → cs[i]? = some v → VRel w M (fun κ => Ow κ 0) x v := by
              generalize a.eval fo = q at hqf
              cases hqf with | fn _ _ cs h1 h2 => exact ⟨cs, rfl, h1, h2⟩
            obtain ⟨hvl, hvr⟩ := opsV_ok (P := P) (n := n) hvs
            have hmap := degA_at hdeg
            have hvl' : vs'.length = vs.length := by rw [hmap]; simp
            have hrun : (execOp a.eval (⟨d, .call ⟨.value fo, cargs, ats⟩, type, pos, after, guard⟩ : Oper)).run P w = .ok (.enter f' (cargs.map a.eval ++ cs)) w := by
              have hname' : ¬ fn.name = "runtime.NumGoroutine" := by simpa using hname
              have hbody' : ¬ fn.body = none := fun e => by rw [e] at hbody; cases hbody
              simp [execOp, resolve, Deferred.ofValue, hfv, invoke, callFunc, hfn, hname', hbody']
            have hsz : (cargs.map a.eval ++ cs).size = (vs' ++ caps).length := by simp [hvl', hvl, hcsz]
            have hall : ∀ (i : Nat) (x : AV) (v : Value), (vs' ++ caps)[i]? = some x → (cargs.map a.eval ++ cs)[i]? = some v → VRel w M (fun κ => Ow κ 0) x v := by
              intro i x v hx hv
              rcases Nat.lt_or_ge i vs'.length with hi | hi
              · rw [List.getElem?_append_left hi, hmap, List.getElem?_map] at hx
                obtain ⟨x', hx', rfl⟩ := Option.map_eq_some_iff.1 hx
                rw [Array.getElem?_append_left (by simp; rw [← Array.length_toList, ← hvl, ← hvl']; exact hi), Array.getElem?_map] at hv
                obtain ⟨y, hy, rfl⟩ := Option.map_eq_some_iff.1 hv
                obtain ⟨o, ho⟩ := hvr hr i x' y hx' (by simpa using hy)
                exact deg_vrel ho
              · rw [List.getElem?_append_right hi] at hx
                rw [Array.getElem?_append_right (by simp; rw [← Array.length_toList, ← hvl, ← hvl']; exact hi)] at hv
                exact hcs _ x v hx (by simpa [hvl, hvl'] using hv)
            let Oe : Loc → Nat → Option Nat := fun l i => match l with
              | .e j => Ow (.e j) i
              | _ => none
            have hOe : ∀ {l : Loc} {i b : Nat}, Oe l i = some b → (∃ j, l = .e j) ∧ Ow l i = some b := by
              intro l i b hb
              cases l with
              | e j => exact ⟨⟨j, rfl⟩, hb⟩
              | _ => cases hb
            have toE : ∀ {x : AV} {v : Value} {o : Option Nat}, (∀ κ, Refs κ x → ∃ j, κ = .e j) → SRel P w M Ow x v o → SRel P w M Oe x v o := by
              intro x v o hx hv
              refine hv.mono (fun b k h => ⟨h, rfl⟩) (fun κ b _ hr' hb => ?_) (fun b hb => ⟨hb, fun cs ty h => h, fun k h => h⟩)
              obtain ⟨j, rfl⟩ := hx κ hr'
              exact hb
            have hpre : CPre P M Oe (vs' ++ caps) H (cargs.map a.eval ++ cs) w := {
              size := hsz
              arg := fun i x v hx hv => by
                have h1 := hall i x v hx hv
                exact h1.mono (fun b k h => ⟨h, rfl⟩) (fun κ b _ hr' hb => by
                  obtain ⟨j, rfl⟩ := hext x (List.mem_of_getElem? hx) κ hr'
                  exact hb)
              blk := by
                intro κ v hv
                obtain ⟨⟨j, rfl⟩, hm⟩ := hH κ v hv
                refine ⟨rfl, ?_⟩
                obtain ⟨ty, cells, b, cs0, rfl, ho, hh, hs, hn, h1, hc⟩ := hr.blk (.e j) _ rfl hm
                exact ⟨ty, cells, b, cs0, rfl, ho, hh, hs, hn, h1, fun i y u hy hu => toE (hHr _ _ _ hv y (List.mem_of_getElem? hy)) (hc i y u hy hu)⟩
              only := fun l i b hb => (hOe hb).1
              inj := fun l i l' i' b hb hb' => hr.inj _ _ _ _ _ (hOe hb).2 (hOe hb').2
              lt := fun l i b hb => hr.lt _ _ _ (hOe hb).2
              mlt := hr.mlt }
            have hc := hcalls M _ w _ (hΓ.1 ▸ Γ.stab w hr.fr) hpre
            unfold wpListIn
            rw [if_pos hw]
            refine ⟨fun _ _ => trivial, ?_⟩
            rw [show (FW Γ.rd).round = Γ.rd from rfl, semAt_of Γ.rd hrun (fun d e => by cases e), Oper.uponIn_enter]
            refine ⟨fun h => Bool.noConfusion (show false = true from h), FW.calls (hc.mono ?_)⟩
            rintro e w' ⟨cv, rfl, hb, M', r, o, hR, hM, hN, hL, ho, hs⟩
            have hr' := hr.ext hb hM hN hL
            refine k r hR Γ hΓ _ w' ?_ Q hQ
            cases d with
            | none => exact ⟨M', Ow, hr'⟩
            | some d' =>
              have hd' := hdn d' rfl
              cases r with
              | own ty xs =>
                refine ⟨M', _, hr'.putown hd' (o := o) hs fun b hb' => ?_⟩
                obtain ⟨o1, o2⟩ := ho b hb'
                exact ⟨fun l i e => absurd (hr.lt l i b e) (by omega), o2, .inr (Nat.le_trans hr.fr.size o1)⟩
              | raw ty z xs =>
                refine ⟨M', _, hr'.putv hd' (x := .raw ty z xs) (o := o) hs (own_refs rfl) fun b hb' => ?_⟩
                obtain ⟨o1, o2⟩ := ho b hb'
                exact ⟨fun l i e => absurd (hr.lt l i b e) (by omega), o2, .inr (Nat.le_trans hr.fr.size o1)⟩
              | rtup ty z xs rest =>
                refine ⟨M', _, hr'.putv hd' (x := .rtup ty z xs rest) (o := o) hs (own_refs rfl) fun b hb' => ?_⟩
                obtain ⟨o1, o2⟩ := ho b hb'
                exact ⟨fun l i e => absurd (hr.lt l i b e) (by omega), o2, .inr (Nat.le_trans hr.fr.size o1)⟩
              | _ =>
                refine ⟨M', Ow, hr'.put hd' ?_⟩
                exact VRel.mono (vrel_of hs rfl) (fun b k h => ⟨h, rfl⟩) (fun κ b _ _ h => by cases h)
          · cases h
        · cases h
      · cases h
    · cases h
  · cases h
end
end Go.Lg

set_option linter.unusedVariables false
set_option linter.unusedSimpArgs false
namespace Go.Lg
open Go Go.RowKit
section
variable {P : Program} {G : Env} {n : Nat} {tab : Tab} {m : Store}
def bslot (ops : List Oper) (o : Oper) : Option Nat := match o.guard with
  | some (j, _) => dstN ops j
  | none => match o.op with
    | .pick (.tmp c) _ _ => some c
    | _ => none
theorem RelX.bool {Γ : Ctx} {a : Act} {w : World} {t : Nat} {b : Bool} (h : RelX P Γ n m a w) (hv : lk m (.s t) = some (.tr (.sc (.bool b)))) : RelX P Γ n ((.s t, .tr (.sc (.bool b))) :: m) a w := by
  refine h.sub fun l v hl => ?_
  rw [lk_cons] at hl
  split at hl
  · rename_i e; subst e; rw [hv]; exact hl
  · exact hl
theorem zG {ops l : List Oper} {o : Oper} {g : Nat} {b : Bool} {K : Store → Prop} (hg : bslot ops o = some g) (hv : lk m (.s g) = some (.tr (.sc (.bool b))))
    (ht : b = true → Sq P G n ops (o :: l) ((.s g, .tr (.sc (.bool true))) :: m) K) (hf : b = false → Sq P G n ops (o :: l) ((.s g, .tr (.sc (.bool false))) :: m) K) : Sq P G n ops (o :: l) m K := by
  intro Γ hΓ a w hr
  cases b with
  | true => exact ht rfl Γ hΓ a w (hr.bool hv)
  | false => exact hf rfl Γ hΓ a w (hr.bool hv)
theorem Sq.sub {ops l : List Oper} {m' : Store} {K : Store → Prop} (hs : SubL m' m) (h : Sq P G n ops l m' K) : Sq P G n ops l m K := fun Γ hΓ a w hr => h Γ hΓ a w (hr.sub hs.sub)
theorem Rep.ls_inv {w : World} {M : Nat → Nat → Prop} {xs : List T} {v : Value} (h : Rep w M (.ls xs) v) : ∃ ad cap, v = .slice ad xs.length cap ∧
    (xs = [] ∨ ∃ b off es, ad = some ⟨b, off, none⟩ ∧ (∀ x, x ∈ xs → x.cells.length = es) ∧ ∃ f : Nat → Nat → Value,
      (∀ (i j : Nat), i < xs.length → j < es → M b (off + i * es + j)) ∧ (∀ (i j : Nat), i < xs.length → j < es → w.cell? ⟨b, off + i * es + j, none⟩ = some (f i j)) ∧
      (∀ (i j : Nat), i < xs.length → j < es → (f i j).oneCell' = true) ∧ (∀ (i j : Nat) (x y : T), xs[i]? = some x → x.cells[j]? = some y → Rep w M y (f i j))) := by
  cases h with
  | nil a cap => exact ⟨a, cap, rfl, .inl rfl⟩
  | ls _ b off es cap f h1 h2 h3 h4 h5 h6 => exact ⟨_, cap, rfl, .inr ⟨b, off, es, rfl, h2, f, h3, h4, h5, h6⟩⟩
theorem Rep.at {w : World} {M : Nat → Nat → Prop} {bk : Loc → Option Nat} {xs : List T} {v : Value} (h : Rep w M (.ls xs) v) {i : Nat} {x : T} (hx : xs[i]? = some x) :
    ∃ b o cap, v = .slice (some ⟨b, o, none⟩) xs.length cap ∧ VRel w M bk (.ep x.cells 0) (.pointer (some ⟨b, o + i * x.cells.length, none⟩)) := by
  obtain ⟨ad, cap, rfl, h | ⟨b, off, es, rfl, hes, f, f1, f2, f3, f4⟩⟩ := h.ls_inv
  · subst h; simp at hx
  · have hi : i < xs.length := by
      rcases Nat.lt_or_ge i xs.length with h | h
      · exact h
      · rw [List.getElem?_eq_none h] at hx; cases hx
    have he := hes x (List.mem_of_getElem? hx)
    refine ⟨b, off, cap, rfl, ?_⟩
    have := VRel.ep (w := w) (M := M) (bk := bk) x.cells 0 b (off + i * x.cells.length) (fun j => f i j) (fun j hj => by rw [he] at hj ⊢; exact f1 i j hi hj) (fun j hj => by rw [he] at hj ⊢; exact f2 i j hi hj)
      (fun j hj => by rw [he] at hj; exact f3 i j hi hj) (fun j y hy => f4 i j x y hx hy)
    simpa using this
def lsOf : AV → Option (List T)
  | .own _ xs => some xs
  | .tr (.ls xs) => some xs
  | _ => none
theorem lsOf_eq {v : AV} {xs : List T} (h : lsOf v = some xs) : v.deg = .tr (.ls xs) := by
  unfold lsOf at h
  split at h <;> first | (obtain rfl := Option.some.inj h; rfl) | cases h
def evIdx (tab : Tab) (n : Nat) (ops : List Oper) (o : Oper) (m : Store) : Option (List T × IntKind × Int × Nat × Nat) := match o.op, o.dst, gOk m ops o.guard with
  | .indexAddr t x i, some d, true => match Nat.blt d n, tlk tab t with
    | true, some ⟨_, _, .slice e, _⟩ => match tlk tab e, opV m x, opV m i with
      | some ⟨es, _, _, _⟩, some v, some (.tr (.sc (.int k j))) => match lsOf v with
        | some xs => some (xs, k, j, es, d)
        | none => none
      | _, _, _ => none
    | _, _ => none
  | _, _, _ => none
theorem wanted_of {ops : List Oper} {o : Oper} {Γ : Ctx} {M : Nat → Nat → Prop} {Ow : Loc → Nat → Option Nat} {a : Act} {w : World} (hg : gOk m ops o.guard = true) (hr : Rel P Γ M Ow n m a w) : Region.wanted o (yielded ops.toArray a.tmps) = true := by
  unfold gOk at hg
  split at hg
  · rename_i h; simp [Region.wanted, h]
  · rename_i j want h
    split at hg
    · rename_i g hgd
      split at hg
      · rename_i v hv
        split at hg
        · rename_i b hs
          simp only [Region.wanted, h]; rw [yielded_of hgd hr hv hs]; exact hg
        · cases hg
      · cases hg
    · cases hg
theorem Sq.do {ops l : List Oper} {o : Oper} {m' : Store} {K : Store → Prop} (hg : gOk m ops o.guard = true)
    (h : ∀ Γ M Ow a w, Rel P Γ M Ow n m a w → ∃ v w', (execOp a.eval o).run P w = .ok (.value v) w' ∧ RelX P Γ n m' (a.put o.dst v) w') (k : Sq P G n ops l m' K) : Sq P G n ops (o :: l) m K := by
  refine Sq.step (m' := m') (fr := []) ?_ (fun κ h => by cases h) k
  rintro Γ a w hpn ⟨M, Ow, hr⟩
  rw [if_pos (wanted_of hg hr)]
  exact OAct.of (fr := []) h Γ a w hpn ⟨M, Ow, hr⟩
theorem zI {ops l : List Oper} {o : Oper} {xs : List T} {ik : IntKind} {j : Int} {es d : Nat} {x : T} {K : Store → Prop} (hT : TabOk P tab) (h : evIdx tab n ops o m = some (xs, ik, j, es, d)) (h0 : 0 ≤ j) (hx : xs[j.toNat]? = some x) (hes : x.cells.length = es)
    (k : Sq P G n ops l ((.s d, .ep x.cells 0) :: m) K) : Sq P G n ops (o :: l) m K := by
  obtain ⟨dst, op, type, pos, after, guard⟩ := o
  unfold evIdx at h
  simp only at h
  split at h
  · rename_i t ox oi d' hgd
    split at h
    · rename_i e _ hlt ht
      split at h
      · rename_i es' _ _ _ v k' j' he hv hi
        split at h
        · rename_i xs' hls
          simp only [Option.some.injEq, Prod.mk.injEq] at h
          obtain ⟨rfl, rfl, rfl, rfl, rfl⟩ := h
          have hd : d' < n := Nat.lt_of_succ_le (Nat.le_of_ble_eq_true hlt)
          refine Sq.do hgd (fun Γ M Ow a w hr => ?_) k
          obtain ⟨q1, hq1⟩ := opV_ok hv hr
          obtain ⟨q2, hq2⟩ := opV_ok hi hr
          have e2 := (sc_eval (Γ := Γ) hq2).1
          have hv' := deg_vrel hq1
          rw [lsOf_eq hls] at hv'
          have hrep : Rep w M (.ls xs') (a.eval ox) := by cases hv' with | tr _ _ h => exact h
          obtain ⟨b, o', cap, e1, hep⟩ := hrep.at (bk := fun κ => Ow κ 0) hx
          obtain ⟨ie, hie, hsz, _⟩ := hT.info he
          have hu := hT.slice ht rfl
          have hlt' : j'.toNat < xs'.length := by
            rcases Nat.lt_or_ge j'.toNat xs'.length with h | h
            · exact h
            · rw [List.getElem?_eq_none h] at hx; cases hx
          have hin : 0 ≤ j' ∧ j' < (xs'.length : Int) := ⟨h0, by omega⟩
          have hsz' : ie.size = x.cells.length := hsz.trans hes.symm
          refine ⟨.pointer (some ⟨b, o' + j'.toNat * x.cells.length, none⟩), w, ?_, M, Ow, hr.put hd hep⟩
          simp [execOp, e1, e2, Instr.indexAt, asIntOf, run_underlying hu, hin, sizeOf, typeInfo, hie, hsz', add_lit]
        · cases h
      · cases h
    · cases h
  · cases h
def El (agg : Bool) (es : Nat) (x : T) : Prop := (agg = true ∧ ∃ cs, x = .ag cs ∧ cs.length = es) ∨ (agg = false ∧ es = 1 ∧ x.cells = [x])
theorem El.len {agg : Bool} {es : Nat} {x : T} (h : El agg es x) : x.cells.length = es := by
  rcases h with ⟨_, cs, rfl, h⟩ | ⟨_, rfl, h⟩
  · exact h
  · rw [h]; rfl
def evLoadEl (tab : Tab) (n : Nat) (ops : List Oper) (o : Oper) (m : Store) : Option (List T × Bool × Nat × Nat) := match o.op, o.dst, gOk m ops o.guard with
  | .load t (.tmp p), some d, true => match Nat.blt d n, tlk tab t, lk m (.s p) with
    | true, some ⟨size, _, kind, _⟩, some (.ep cs 0) => some (cs, kind.agg, size, d)
    | _, _, _ => none
  | _, _, _ => none
theorem Sq.loadEl {ops l : List Oper} {o : Oper} {agg : Bool} {size d : Nat} {x : T} {K : Store → Prop} (hT : TabOk P tab) (h : evLoadEl tab n ops o m = some (x.cells, agg, size, d)) (hx : El agg size x)
    (k : Sq P G n ops l ((.s d, .tr x) :: m) K) : Sq P G n ops (o :: l) m K := by
  obtain ⟨dst, op, type, pos, after, guard⟩ := o
  unfold evLoadEl at h
  simp only at h
  split at h
  · rename_i t p d' hgd
    split at h
    · rename_i size' by' kind zs cs hlt ht hp
      simp only [Option.some.injEq, Prod.mk.injEq] at h
      obtain ⟨rfl, rfl, rfl, rfl⟩ := h
      refine Sq.do hgd (fun Γ M Ow a w hr => ?_) k
      have hq : VRel w M (fun κ => Ow κ 0) (.ep x.cells 0) (a.tmps.getD p undef) := hr.slot p _ hp
      obtain ⟨b, ob, f, hv, c2, c3, c4⟩ : ∃ (b ob : Nat) (f : Nat → Value), a.tmps.getD p undef = .pointer (some ⟨b, ob + 0, none⟩) ∧ (∀ j, j < x.cells.length → w.cell? ⟨b, ob + j, none⟩ = some (f j)) ∧ (∀ j, j < x.cells.length → (f j).oneCell' = true) ∧ (∀ j y, x.cells[j]? = some y → Rep w M y (f j)) := by
        generalize a.tmps.getD p undef = q at hq
        cases hq with | ep _ _ b ob f c1 c2 c3 c4 => exact ⟨b, ob, f, rfl, c2, c3, c4⟩
      rcases hx with ⟨hagg, cs', rfl, hlen⟩ | ⟨hagg, h1, hx1⟩
      · have hrun := run_loadVar_agg (b := b) (o := ob + 0) (cs := (List.range size').map f) hT ht hagg (w := w) (by simp) (by
          intro j v hv'
          rw [List.getElem?_map] at hv'
          obtain ⟨j', hj', rfl⟩ := Option.map_eq_some_iff.1 hv'
          have hlt : j < size' := by
            rcases Nat.lt_or_ge j size' with h | h
            · exact h
            · rw [List.getElem?_eq_none (by simpa using h)] at hj'; cases hj'
          rw [List.getElem?_range hlt] at hj'
          obtain rfl := Option.some.inj hj'
          exact c2 j (by simp only [T.cells]; omega))
        refine ⟨_, w, by simp only [execOp]; rw [show a.eval (.tmp p) = a.tmps.getD p undef from rfl, hv, Sem.run_bind, hrun]; rfl, M, Ow, hr.put (Nat.lt_of_succ_le (Nat.le_of_ble_eq_true hlt)) (.tr _ _ (.ag _ _ (by simp [hlen]) ?_ ?_))⟩
        · intro i v hv'
          rw [List.getElem?_toArray, List.getElem?_map] at hv'
          obtain ⟨j', hj', rfl⟩ := Option.map_eq_some_iff.1 hv'
          have : j' < size' := by simpa using List.mem_of_getElem? hj'
          exact c3 _ (by simp only [T.cells]; omega)
        · intro i y v hy hv'
          rw [List.getElem?_toArray, List.getElem?_map] at hv'
          obtain ⟨j', hj', rfl⟩ := Option.map_eq_some_iff.1 hv'
          have hlt : i < size' := by
            rcases Nat.lt_or_ge i size' with h | h
            · exact h
            · rw [List.getElem?_eq_none (by simpa using h)] at hj'; cases hj'
          rw [List.getElem?_range hlt] at hj'
          obtain rfl := Option.some.inj hj'
          exact c4 i y hy
      · have hrun := run_loadVar_one (b := b) (o := ob + 0) hT ht hagg (w := w) (v := f 0) (c2 0 (by rw [hx1]; simp))
        refine ⟨f 0, w, by simp only [execOp]; rw [show a.eval (.tmp p) = a.tmps.getD p undef from rfl, hv, Sem.run_bind, hrun]; rfl, M, Ow, hr.put (Nat.lt_of_succ_le (Nat.le_of_ble_eq_true hlt)) (.tr _ _ (c4 0 x (by rw [hx1]; rfl)))⟩
    · cases h
  · cases h
theorem Sq.re {ops l : List Oper} {lc : Loc} {v v' : AV} {K : Store → Prop} (h : v = v') (k : Sq P G n ops l ((lc, v') :: m) K) : Sq P G n ops l ((lc, v) :: m) K := by rw [h]; exact k
theorem wrapz {x z : Int} (h : x = z) (h1 : -9223372036854775808 ≤ z) (h2 : z ≤ 9223372036854775807) : AV.tr (.sc (.int .i64 (IntKind.i64.wrap x))) = AV.tr (.sc (.int .i64 z)) := by
  subst h
  rw [Go.IntWalk.i64_in x ⟨h1, h2⟩]
end
end Go.Lg

set_option linter.unusedVariables false
set_option linter.unusedSimpArgs false
namespace Go.Lg
open Go Go.RowKit
section
variable {P : Program} {n : Nat} {tab : Tab} {m : Store}
theorem Rep.flat {w : World} {M : Nat → Nat → Prop} {xs : List T} {v : Value} (h : Rep w M (.ls xs) v) {es : Nat} (hes : ∀ x, x ∈ xs → x.cells.length = es) (hpos : 0 < es) (hne : xs ≠ []) :
    ∃ (b off cap : Nat) (vs : List Value), v = .slice (some ⟨b, off, none⟩) xs.length cap ∧ vs.length = xs.length * es ∧ (∀ (j : Nat) (u : Value), vs[j]? = some u → w.cell? ((⟨b, off, none⟩ : Addr).add j) = some u) ∧ (∀ u, u ∈ vs → u.oneCell' = true) ∧
      (∀ j, j < xs.length * es → M b (off + j)) ∧ ∀ (i j : Nat) (x y : T), xs[i]? = some x → x.cells[j]? = some y → ∃ u, vs[i * es + j]? = some u ∧ Rep w M y u := by
  obtain ⟨ad, cap, rfl, h | ⟨b, off, es', rfl, hes', f, f1, f2, f3, f4⟩⟩ := h.ls_inv
  · exact absurd h hne
  · obtain rfl : es' = es := by
      cases xs with
      | nil => exact absurd rfl hne
      | cons x xs => rw [← hes x (List.mem_cons_self ..), hes' x (List.mem_cons_self ..)]
    have hdm : ∀ {k : Nat}, k < xs.length * es' → k / es' < xs.length ∧ k % es' < es' ∧ k / es' * es' + k % es' = k := by
      intro k hk
      exact ⟨Nat.div_lt_of_lt_mul (by rw [Nat.mul_comm]; exact hk), Nat.mod_lt _ hpos, by rw [Nat.mul_comm]; exact Nat.div_add_mod k es'⟩
    refine ⟨b, off, cap, (List.range (xs.length * es')).map fun k => f (k / es') (k % es'), rfl, by simp, ?_, ?_, ?_, ?_⟩
    · intro j u hu
      rw [List.getElem?_map] at hu
      obtain ⟨j', hj', rfl⟩ := Option.map_eq_some_iff.1 hu
      have hlt : j < xs.length * es' := by
        rcases Nat.lt_or_ge j (xs.length * es') with h | h
        · exact h
        · rw [List.getElem?_eq_none (by simpa using h)] at hj'; cases hj'
      rw [List.getElem?_range hlt] at hj'
      obtain rfl := Option.some.inj hj'
      obtain ⟨d1, d2, d3⟩ := hdm hlt
      rw [add_lit, ← f2 _ _ d1 d2, Nat.add_assoc, d3]
    · intro u hu
      obtain ⟨k, hk, rfl⟩ := List.mem_map.1 hu
      have hk : k < xs.length * es' := by simpa using hk
      obtain ⟨d1, d2, d3⟩ := hdm hk
      exact f3 _ _ d1 d2
    · intro j hj
      obtain ⟨d1, d2, d3⟩ := hdm hj
      have := f1 _ _ d1 d2
      rwa [Nat.add_assoc, d3] at this
    · intro i j x y hx hy
      have hi : i < xs.length := by
        rcases Nat.lt_or_ge i xs.length with h | h
        · exact h
        · rw [List.getElem?_eq_none h] at hx; cases hx
      have hj : j < es' := by
        rw [← hes x (List.mem_of_getElem? hx)]
        rcases Nat.lt_or_ge j x.cells.length with h | h
        · exact h
        · rw [List.getElem?_eq_none h] at hy; cases hy
      have hlt : i * es' + j < xs.length * es' := by
        have : (i + 1) * es' ≤ xs.length * es' := Nat.mul_le_mul_right _ hi
        rw [Nat.succ_mul] at this; omega
      refine ⟨f i j, ?_, f4 i j x y hx hy⟩
      rw [List.getElem?_map, List.getElem?_range hlt]
      have e1 : (i * es' + j) / es' = i := by rw [Nat.add_comm, Nat.add_mul_div_right _ _ hpos, Nat.div_eq_of_lt hj, Nat.zero_add]
      have e2 : (i * es' + j) % es' = j := by rw [Nat.add_comm, Nat.add_mul_mod_self_right, Nat.mod_eq_of_lt hj]
      simp [e1, e2]
def Laid (w : World) (M : Nat → Nat → Prop) (es : Nat) (xs : List T) (vs : List Value) : Prop :=
  vs.length = xs.length * es ∧ ∀ (i j : Nat) (x y : T), xs[i]? = some x → x.cells[j]? = some y → ∃ u, vs[i * es + j]? = some u ∧ Rep w M y u
theorem Laid.append {w : World} {M : Nat → Nat → Prop} {es : Nat} {xs ys : List T} {vs us : List Value} (h : Laid w M es xs vs) (h' : Laid w M es ys us) (hes : ∀ x, x ∈ xs → x.cells.length = es) : Laid w M es (xs ++ ys) (vs ++ us) := by
  refine ⟨by rw [List.length_append, h.1, h'.1, List.length_append, Nat.add_mul], fun i j x y hx hy => ?_⟩
  rcases Nat.lt_or_ge i xs.length with hi | hi
  · rw [List.getElem?_append_left hi] at hx
    obtain ⟨u, hu, hr⟩ := h.2 i j x y hx hy
    refine ⟨u, ?_, hr⟩
    rw [List.getElem?_append_left]
    · exact hu
    · rcases Nat.lt_or_ge (i * es + j) vs.length with h | h
      · exact h
      · rw [List.getElem?_eq_none h] at hu; cases hu
  · rw [List.getElem?_append_right hi] at hx
    obtain ⟨u, hu, hr⟩ := h'.2 (i - xs.length) j x y hx hy
    refine ⟨u, ?_, hr⟩
    have e : i * es + j = vs.length + ((i - xs.length) * es + j) := by
      rw [h.1]
      have : i * es = xs.length * es + (i - xs.length) * es := by rw [← Nat.add_mul]; congr 1; omega
      omega
    rw [e, List.getElem?_append_right (by omega)]
    simpa using hu
theorem Laid.more {w : World} {M : Nat → Nat → Prop} {es : Nat} {xs : List T} {vs us : List Value} (h : Laid w M es xs vs) : ∀ (i j : Nat) (x y : T), xs[i]? = some x → x.cells[j]? = some y → ∃ u, (vs ++ us)[i * es + j]? = some u ∧ Rep w M y u := by
  intro i j x y hx hy
  obtain ⟨u, hu, hr⟩ := h.2 i j x y hx hy
  refine ⟨u, ?_, hr⟩
  rw [List.getElem?_append_left]
  · exact hu
  · rcases Nat.lt_or_ge (i * es + j) vs.length with h | h
    · exact h
    · rw [List.getElem?_eq_none h] at hu; cases hu
theorem zero_one {zs : List AV} {z : Value} (hzs : zsOk zs z.cells.toList = true) (ho : ownTys P zs = true) (hz : 0 < zs.length) (q : Nat) : ∀ (k : Nat) (u : Value), (Builtin.zeroCells z.cells q)[k]? = some u → u.oneCell' = true := by
  obtain ⟨z1, z2, z3, z4⟩ := zsOk_all hzs ho
  have hzsz : z.cells.size = zs.length := by rw [z1]; simp
  intro k u hu
  unfold Builtin.zeroCells at hu
  rw [Array.getElem?_map] at hu
  obtain ⟨j, hj, rfl⟩ := Option.map_eq_some_iff.1 hu
  have hm : j % z.cells.size < z.cells.size := Nat.mod_lt _ (by omega)
  have : z.cells[j % z.cells.size]! = z.cells[j % z.cells.size] := by simp [hm]
  rw [this]
  exact z3 (j % z.cells.size) _ (by simp [hm])
theorem run_append_room_off (w : World) (t ty e : TypeId) (i : TypeInfo) (ht : P.underlying t = some (.slice e)) (hi : P.info? e = some i)
    (g off sLen sCap : Nat) (cur : Array Value) (hg : w.heap[g]? = some (.cells cur e (0, 0)))
    (a : Addr) (m c : Nat) (news : List Value) (hl : news.length = m * i.size) (hnews : ∀ j u, news[j]? = some u → w.cell? (a.add j) = some u) (h1 : ∀ u ∈ news, u.oneCell' = true)
    (hroom : sLen + m ≤ sCap) (hfit : off + sLen * i.size + news.length ≤ cur.size) :
    (Builtin.append_ #[t, t] ty #[.slice (some ⟨g, off, none⟩) sLen sCap, .slice (some a) m c]).run P w =
      .ok (.slice (some ⟨g, off, none⟩) (sLen + m) sCap) (w.setRow g (cur.toList.take (off + sLen * i.size) ++ news ++ cur.toList.drop (off + sLen * i.size + news.length)).toArray) := by
  have hf := run_firstCells_some (P := P) w i.size m a m c news hl hnews
  have hst := run_storeCells_at P g (off + sLen * i.size) e news 0 cur w hg (by simpa using hfit) h1
  simp only [Nat.add_zero] at hst
  simp [Builtin.append_, run_underlying ht, sizeOf, typeInfo, hi, Builtin.lenOf, hroom, hf, Addr.add_lit, hst]
theorem append_run {Γ : Ctx} {M : Nat → Nat → Prop} {Ow : Loc → Nat → Option Nat} {a : Act} {w : World} (hT : TabOk P tab) (hr : Rel P Γ M Ow n m a w) {t e : TypeId} {dt de : TD} (ht : tlk tab t = some dt) (hk : dt.kind = .slice e) (he : tlk tab e = some de) (hpos : 0 < de.size) (hzl : de.zero.length = de.size)
    {s d : Nat} (hd : d < n) {xs ys : List T} {bv sv : Value} {ty : TypeId} (hb : (lk m (.s s) = some (.own e xs) ∧ bv = a.tmps.getD s undef) ∨ (xs = [] ∧ bv = .slice none 0 0)) (hs : Rep w M (.ls ys) sv)
    (hys : ∀ y, y ∈ ys → y.cells.length = de.size) (hbytes : (xs.length + ys.length) * de.bytes ≤ 140737488355328) (hlen : xs.length + ys.length ≤ 140737488355328) :
    ∃ v w', (Builtin.append_ #[t, t] ty #[bv, sv]).run P w = .ok v w' ∧ RelX P Γ n ((.s d, .own e (xs ++ ys)) :: (.s s, .unk) :: m) (a.put (some d) v) w' := by
  obtain ⟨i, hi, hisz, hiby, _, ho, z, hz, hzs⟩ := hT.info he
  have hu : P.underlying t = some (.slice e) := hT.slice ht hk
  have h63 : ¬ (9223372036854775807 : Int) < (xs.length + ys.length : Nat) := by omega
  -- the slot's slice, or nil
  have hslot : ∃ o, OwnRel P w M e xs bv o ∧ (∀ b, o = some b → Ow (.s s) 0 = some b ∧ lk m (.s s) = some (.own e xs) ∧ bv = a.tmps.getD s undef) := by
    rcases hb with ⟨h1, rfl⟩ | ⟨rfl, rfl⟩
    · exact ⟨Ow (.s s) 0, hr.slot s _ h1, fun b hb => ⟨hb, h1, rfl⟩⟩
    · exact ⟨none, ⟨i, hi, (fun x hx => by cases hx), .inl ⟨rfl, none, rfl⟩⟩, fun b hb => by cases hb⟩
  obtain ⟨o, ⟨i', hi', hxs, hown⟩, hos⟩ := hslot
  obtain rfl : i' = i := by rw [hi] at hi'; exact (Option.some.inj hi').symm
  have hes : ∀ x, x ∈ xs ++ ys → x.cells.length = i'.size := by
    intro x hx
    rcases List.mem_append.1 hx with h | h
    · exact hxs x h
    · rw [hisz]; exact hys x h
  by_cases hy0 : ys = []
  · -- nothing is appended
    subst hy0
    obtain ⟨ad, cap, rfl, _⟩ := hs.ls_inv
    have hrun : (Builtin.append_ #[t, t] ty #[bv, .slice ad 0 cap]).run P w = .ok bv w := by
      have hf : (Builtin.firstCells i'.size 0 (.slice ad 0 cap)).run P w = .ok #[] w := by
        cases ad with
        | none => exact run_firstCells_none w _ _ _ _
        | some a0 => exact run_firstCells_some (P := P) w i'.size 0 a0 0 cap [] (by simp) (by simp)
      rcases hown with ⟨rfl, ad0, rfl⟩ | ⟨b, off, c, cs, rfl, rfl, hrep, hh, hcs, hc, hn, hone⟩
      · cases ad0 <;> simp [Builtin.append_, run_underlying hu, sizeOf, typeInfo, hi, Builtin.lenOf, hf, storeCells]
      · simp [Builtin.append_, run_underlying hu, sizeOf, typeInfo, hi, Builtin.lenOf, hf, hc, storeCells]
    refine ⟨bv, w, hrun, ?_⟩
    rw [List.append_nil]
    rcases hb with ⟨h1, rfl⟩ | ⟨rfl, rfl⟩
    · obtain ⟨Ow', h'⟩ := hr.take hd (x := .own e xs) rfl h1
      refine ⟨M, Ow', ?_⟩
      by_cases e' : d = s
      · subst e'
        refine h'.sub fun l v hl => ?_
        rw [lk_cons] at hl ⊢
        split
        · rename_i e; rw [if_pos e] at hl; exact hl
        · rename_i e
          rw [if_neg e] at hl
          rw [lk_ne _ _ e] at hl ⊢; exact hl
      · have h'' := h'.label (t := s) (v' := .unk) (VRel.unk _)
        refine h''.sub fun l v hl => ?_
        rw [lk_cons] at hl
        split at hl
        · rename_i e
          subst e
          rw [lk_ne _ _ (fun e => e' (by injection e with e; exact e.symm)), lk_self]; exact hl
        · rename_i e
          rw [lk_cons] at hl ⊢
          split
          · rename_i e2; rw [if_pos e2] at hl; exact hl
          · rename_i e2; rw [if_neg e2] at hl; rw [lk_ne _ _ e, lk_ne _ _ e2]; exact hl
    · have hr2 := hr.label (t := s) (v' := .unk) (VRel.unk _)
      exact ⟨M, _, hr2.putown hd (o := none) ⟨i', hi, (fun x hx => by cases hx), .inl ⟨rfl, none, rfl⟩⟩ (fun b hb => by cases hb)⟩
  · obtain ⟨b2, off2, cap2, news, rfl, hnl, hncell, hn1, hnM, hnrep⟩ := hs.flat (es := i'.size) (fun y hy => by rw [hisz]; exact hys y hy) (by rw [hisz]; exact hpos) hy0
    have hm0 : 0 < ys.length := List.length_pos_iff.2 hy0
    have hlaidN : Laid w M i'.size ys news := ⟨hnl, hnrep⟩
    -- a new block: the elders, the new ones, noughts
    have newblk : ∀ (olds : List Value) (cap' : Nat), Laid w M i'.size xs olds → (∀ u, u ∈ olds → u.oneCell' = true) → xs.length + ys.length ≤ cap' →
        RelX P Γ n ((.s d, .own e (xs ++ ys)) :: (.s s, .unk) :: m) (a.put (some d) (.slice (some ⟨w.heap.size, 0, none⟩) (xs.length + ys.length) cap'))
          (w.drew.alloc (.cells (olds.toArray ++ news.toArray ++ Builtin.zeroCells z.cells (cap' - (xs.length + ys.length))) e)) := by
      intro olds cap' hlaid ho1 hcap'
      have hr2 := hr.label (t := s) (v' := .unk) (VRel.unk _)
      have hbel : Below w.heap.size w (w.drew.alloc (.cells (olds.toArray ++ news.toArray ++ Builtin.zeroCells z.cells (cap' - (xs.length + ys.length))) e)) := (Below.refl _ w).drew.alloc (Nat.le_refl _) _
      have hzsz : z.cells.size = i'.size := by
        obtain ⟨z1, _⟩ := zsOk_all hzs ho
        rw [hisz, ← hzl, z1]; simp
      have := putown_new (xs := xs ++ ys) (cap := cap') hr2 hd hi hbel (alloc_at w.drew _) (by
        simp only [Array.size_append, List.size_toArray, size_zeroCells, hzsz, hlaid.1, hnl, ← Nat.add_mul]
        congr 1; omega) (by simpa using hcap') hes (by
        intro k u hu
        rw [Array.getElem?_append] at hu
        split at hu
        · have e1 : olds.toArray ++ news.toArray = (olds ++ news).toArray := by simp
          rw [e1, List.getElem?_toArray] at hu
          rcases List.mem_append.1 (List.mem_of_getElem? hu) with h | h
          · exact ho1 u h
          · exact hn1 u h
        · exact zero_one hzs ho (by rw [hzl]; exact hpos) _ _ u hu) (by
        intro k j x y hx hy
        obtain ⟨u, hu, hru⟩ := (hlaid.append hlaidN hxs).more (us := (Builtin.zeroCells z.cells (cap' - (xs.length + ys.length))).toList) k j x y hx hy
        refine ⟨u, ?_, hru⟩
        have e1 : (olds.toArray ++ news.toArray ++ Builtin.zeroCells z.cells (cap' - (xs.length + ys.length))) = (olds ++ news ++ (Builtin.zeroCells z.cells (cap' - (xs.length + ys.length))).toList).toArray := by
          simp
        rw [e1, List.getElem?_toArray]; exact hu)
      rw [List.length_append] at this
      exact this
    rcases hown with ⟨rfl, ad0, rfl⟩ | ⟨b, off, c, cs, rfl, rfl, hrep, hh, hcs, hc, hn, hone⟩
    · -- nil
      cases ad0 with
      | none =>
        have hrun := run_append_nil (P := P) w t ty e i' z hu hi hz ⟨b2, off2, none⟩ ys.length cap2 news hnl hncell hm0 (by simp at hlen; omega) (by rw [hiby]; simp at hbytes; omega)
        refine ⟨_, _, hrun, ?_⟩
        have := newblk [] (grownCap w ys.length 0 e) ⟨by simp, by simp⟩ (by simp) (by simpa using grownCap_ge w ys.length 0 e)
        simpa using this
      | some a0 =>
        have hrun := run_append_grow (P := P) w t ty e i' z hu hi hz a0 0 0 [] (by simp) (by simp) ⟨b2, off2, none⟩ ys.length cap2 news hnl hncell (by omega) (by simp at hlen; omega) (growslice_fits (by omega) (by rw [hiby]; exact hbytes))
        refine ⟨_, _, hrun, ?_⟩
        exact newblk [] _ ⟨by simp, by simp⟩ (by simp) (grownCap_ge w _ 0 e)
    · obtain ⟨hOw, hlk, hbv⟩ := hos b rfl
      by_cases hroom : xs.length + ys.length ≤ c
      · -- in its own room
        have hcm2 : (xs.length + ys.length) * i'.size ≤ c * i'.size := Nat.mul_le_mul_right _ hroom
        rw [Nat.add_mul] at hcm2
        have hfit : off + xs.length * i'.size + news.length ≤ cs.size := by rw [hnl]; omega
        have hrun := run_append_room_off (P := P) w t ty e i' hu hi b off xs.length c cs hh ⟨b2, off2, none⟩ ys.length cap2 news hnl hncell hn1 hroom hfit
        refine ⟨_, _, hrun, ?_⟩
        have hr1 := hr.label (t := s) (v' := .unk) (VRel.unk _)
        have hat : ∀ k, (cs.toList.take (off + xs.length * i'.size) ++ news ++ cs.toList.drop (off + xs.length * i'.size + news.length)).toArray[k]? = if k < off + xs.length * i'.size then cs[k]? else if k < off + xs.length * i'.size + news.length then news[k - (off + xs.length * i'.size)]? else cs[k]? := by
          intro k
          rw [List.getElem?_toArray, splice_at (by simpa using hfit), Array.getElem?_toList]
        have hsz' : (cs.toList.take (off + xs.length * i'.size) ++ news ++ cs.toList.drop (off + xs.length * i'.size + news.length)).toArray.size = cs.size := by simp; omega
        have hr2 := hr1.growown (s := s) (lo := off + xs.length * i'.size) (hi := off + (xs.length + ys.length) * i'.size) hOw (by rw [lk_self]) (fun k hk => by
          rcases Nat.lt_or_ge k (off + xs.length * i'.size) with h | h
          · exact h
          · exact absurd hk (hn k h)) hh (setRow_heap w b cs _ e (0, 0) hh) hsz' (fun k hk => by rw [hat, if_pos hk]) rfl rfl rfl (setRow_size ..) (fun c' hc' => setRow_other w b c' _ hc')
        have hr3 := hr2.setOw (l := .s s) (i := 0) rfl none (fun b hb => by cases hb) (fun t' v' e' hv' => by
          obtain rfl : s = t' := by injection e'
          rw [lk_self] at hv'; obtain rfl := Option.some.inj hv'; exact VRel.unk _) (fun _ _ _ _ _ _ _ e' => by cases e')
        -- what the old readings took is as it was
        have hm' : ∀ b' k, M b' k → (M b' k ∨ (b' = b ∧ off + xs.length * i'.size ≤ k ∧ k < off + (xs.length + ys.length) * i'.size)) ∧
            (w.setRow b (cs.toList.take (off + xs.length * i'.size) ++ news ++ cs.toList.drop (off + xs.length * i'.size + news.length)).toArray).cell? ⟨b', k, none⟩ = w.cell? ⟨b', k, none⟩ := by
          intro b' k hM
          refine ⟨.inl hM, ?_⟩
          by_cases eb : b' = b
          · subst eb
            rw [cell_setRow_same w b' k cs _ e (0, 0) hh, hat]
            have hk : k < off + xs.length * i'.size := by
              rcases Nat.lt_or_ge k (off + xs.length * i'.size) with h | h
              · exact h
              · exact absurd hM (hn k h)
            rw [if_pos hk]; simp [World.cell?, hh]
          · exact cell_setRow_other w b _ ⟨b', k, none⟩ eb
        obtain ⟨q1, q2, q3, olds, e1, hol, hocell, ho1, hoM, horep⟩ : ∃ (q1 q2 q3 : Nat) (olds : List Value), True ∧ olds.length = xs.length * i'.size ∧ (∀ (j : Nat) (u : Value), olds[j]? = some u → cs[off + j]? = some u) ∧ (∀ u, u ∈ olds → u.oneCell' = true) ∧ True ∧ ∀ (i j : Nat) (x y : T), xs[i]? = some x → x.cells[j]? = some y → ∃ u, olds[i * i'.size + j]? = some u ∧ Rep w M y u := by
          by_cases hx0 : xs = []
          · subst hx0; exact ⟨0, 0, 0, [], trivial, by simp, by simp, by simp, trivial, by simp⟩
          · obtain ⟨b0, off0, cap0, vs, e0, v1, v2, v3, v4, v5⟩ := hrep.flat (es := i'.size) hxs (by rw [hisz]; exact hpos) hx0
            injection e0 with e0 _ _
            injection e0 with e0
            injection e0 with e0 e00
            subst e0; subst e00
            exact ⟨0, 0, 0, vs, trivial, v1, fun j u hu => by have := v2 j u hu; rw [add_lit] at this; simpa [World.cell?, hh] using this, v3, trivial, v5⟩
        have hcap : off + (xs.length + ys.length) * i'.size ≤ cs.size := by rw [Nat.add_mul]; omega
        have hRep : Rep (w.setRow b (cs.toList.take (off + xs.length * i'.size) ++ news ++ cs.toList.drop (off + xs.length * i'.size + news.length)).toArray) (fun c' k => M c' k ∨ (c' = b ∧ off + xs.length * i'.size ≤ k ∧ k < off + (xs.length + ys.length) * i'.size)) (.ls (xs ++ ys))
            (.slice (some ⟨b, off, none⟩) (xs ++ ys).length c) := by
          have hlin : ∀ {k j : Nat}, k < (xs ++ ys).length → j < i'.size → k * i'.size + j < (xs.length + ys.length) * i'.size := by
            intro k j hk hj
            rw [List.length_append] at hk
            have : (k + 1) * i'.size ≤ (xs.length + ys.length) * i'.size := Nat.mul_le_mul_right _ hk
            rw [Nat.succ_mul] at this; omega
          have hnl' : xs.length * i'.size + news.length = (xs.length + ys.length) * i'.size := by rw [hnl, Nat.add_mul]
          have hcell : ∀ k, k < (xs.length + ys.length) * i'.size → (w.setRow b (cs.toList.take (off + xs.length * i'.size) ++ news ++ cs.toList.drop (off + xs.length * i'.size + news.length)).toArray).cell? ⟨b, off + k, none⟩ = some ((olds ++ news).getD k undef) := by
            intro k hk
            rw [cell_setRow_same w b (off + k) cs _ e (0, 0) hh, hat]
            by_cases h1 : k < xs.length * i'.size
            · rw [if_pos (by omega)]
              have hk' : k < olds.length := by omega
              rw [hocell k olds[k] (by simp [hk'])]
              simp [List.getD, List.getElem?_append_left hk', hk']
            · rw [if_neg (by omega), if_pos (by omega), show off + k - (off + xs.length * i'.size) = k - xs.length * i'.size by omega]
              have hk' : k - xs.length * i'.size < news.length := by omega
              simp [List.getD, List.getElem?_append_right (show olds.length ≤ k by omega), hol, hk']
          refine .ls (xs ++ ys) b off i'.size c (fun k j => (olds ++ news).getD (k * i'.size + j) undef) (by rw [List.length_append]; exact hroom) hes ?_ ?_ ?_ ?_
          · intro k j hk hj
            have := hlin hk hj
            by_cases h1 : k * i'.size + j < xs.length * i'.size
            · refine .inl ?_
              have hx0 : xs ≠ [] := fun h => by subst h; simp at h1
              obtain ⟨b0, off0, cap0, vs, e0, v1, v2, v3, v4, v5⟩ := hrep.flat (es := i'.size) hxs (by rw [hisz]; exact hpos) hx0
              injection e0 with e0 _ _
              injection e0 with e0
              injection e0 with e0 e00
              subst e0; subst e00
              have := v4 _ h1
              rwa [← Nat.add_assoc] at this
            · exact .inr ⟨rfl, by omega, by omega⟩
          · intro k j hk hj; rw [show off + k * i'.size + j = off + (k * i'.size + j) from Nat.add_assoc ..]; exact hcell _ (hlin hk hj)
          · intro k j hk hj
            have hlt : k * i'.size + j < (olds ++ news).length := by
              rw [List.length_append, hol]; have := hlin hk hj; omega
            have hmem : (olds ++ news).getD (k * i'.size + j) undef ∈ olds ++ news := by
              simp only [List.getD, List.getElem?_eq_getElem hlt, Option.getD_some]; exact List.getElem_mem hlt
            rcases List.mem_append.1 hmem with h | h
            · exact ho1 _ h
            · exact hn1 _ h
          · intro k j x y hx hy
            obtain ⟨u, hu, hru⟩ := (Laid.append (w := w) (M := M) (es := i'.size) ⟨hol, horep⟩ hlaidN hxs).2 k j x y hx hy
            have : (olds ++ news).getD (k * i'.size + j) undef = u := by simp [List.getD, hu]
            rw [this]; exact hru.mono hm'
        have hr4 := hr3.putown hd (o := some b) (ty := e) (xs := xs ++ ys) (cv := .slice (some ⟨b, off, none⟩) (xs.length + ys.length) c)
          ⟨i', hi, hes, .inr ⟨b, off, c, _, rfl, by rw [List.length_append], by have h := hRep; rw [List.length_append] at h; exact h, setRow_heap w b cs _ e (0, 0) hh, by rw [hsz']; exact hcs, by rw [List.length_append]; exact hroom, fun k hk h => by
            rw [List.length_append] at hk
            rcases h with h | ⟨_, _, h⟩
            · rw [Nat.add_mul] at hk; exact hn k (by omega) h
            · omega, fun k u hu => by
            rw [hat] at hu
            split at hu
            · exact hone k u hu
            · split at hu
              · exact hn1 u (List.mem_of_getElem? hu)
              · exact hone k u hu⟩⟩ (fun c' hc' => by
            obtain rfl := Option.some.inj hc'
            refine ⟨fun l j e' => ?_, hr2.lt _ _ _ hOw, hr2.mineL (fun j e' => by cases e') hOw⟩
            by_cases e2 : l = .s s ∧ j = 0
            · obtain ⟨rfl, rfl⟩ := e2; rw [setO_self] at e'; cases e'
            · rw [setO_ne _ e2] at e'; exact e2 (hr2.inj _ _ _ _ _ e' hOw))
        exact ⟨_, _, hr4⟩
      · -- a new array
        by_cases hx0 : xs = []
        · subst hx0
          have hrun := run_append_grow (P := P) w t ty e i' z hu hi hz ⟨b, off, none⟩ 0 c [] (by simp) (by simp) ⟨b2, off2, none⟩ ys.length cap2 news hnl hncell (by simp at hroom; omega) (by simp at hlen; omega) (growslice_fits (by simp at hroom; omega) (by rw [hiby]; exact hbytes))
          refine ⟨_, _, hrun, ?_⟩
          exact newblk [] _ ⟨by simp, by simp⟩ (by simp) (grownCap_ge w _ c e)
        · obtain ⟨b0, off0, cap0, olds, e0, v1, v2, v3, v4, v5⟩ := hrep.flat (es := i'.size) hxs (by rw [hisz]; exact hpos) hx0
          injection e0 with e0 _ _
          injection e0 with e0
          injection e0 with e0 e00
          subst e0; subst e00
          have hrun := run_append_grow (P := P) w t ty e i' z hu hi hz ⟨b, off, none⟩ xs.length c olds v1 v2 ⟨b2, off2, none⟩ ys.length cap2 news hnl hncell (by omega) (by omega) (growslice_fits (by omega) (by rw [hiby]; exact hbytes))
          refine ⟨_, _, hrun, ?_⟩
          exact newblk olds _ ⟨v1, v5⟩ v3 (grownCap_ge w _ c e)
end
end Go.Lg
