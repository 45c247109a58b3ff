/- Words and laws that the theorem leans on (part 6). -/
import Derived.Test.YtdjdfdfelcnpmaaGreatDoorPa9be2696
import Derived.Test.YtdjdfdfelcnpmaaGreatDoorPa894284e
import Derived.Test.YtdjdfdfelcnpmaaGreatDoorPbf2abc0f
import Derived.Test.YtdjdfdfelcnpmaaGreatDoorP5f16f3eb
import Derived.Test.YtdjdfdfelcnpmaaGreatDoorP789cc276
import Derived.Lib.TrailingZeros
import Derived.Laws.Cover3
import Derived.Laws.FloatArith
import Derived.Laws.Externs
import Derived.Test.YtdjdfdfelcnpmaaGreatDoorRows
import Derived.Carry
import Derived.Lib.SmallJoins
import Derived.LaidMore
import Derived.PinnedBridge
import Derived.HandedShaped
import Derived.ProofKit
import Derived.OpenShut
import Derived.ShutString
import Derived.SizedLaws
import Derived.Stop.LaidErr
import Derived.Stop.Joined
import Derived.Shelf.Vars
import Derived.Lib.LaidTab
import Derived.MakeChecks

set_option linter.unusedVariables false
set_option linter.unusedSimpArgs false
namespace Go.Lg
open Go Go.RowKit

section
variable {P : Program} {G : Env} {n : Nat} {tab : Tab} {m : Store}

/-! A literal without elements. -/
def evLit0 (tab : Tab) (n : Nat) (ops : List Oper) (o : Oper) (m : Store) : Option (TypeId × Nat) := match o.op, o.dst, gOk m ops o.guard with
  | .buildSlice t 0 ⟨[]⟩, some d, true => match Nat.blt d n, tlk tab t with
    | true, some ⟨_, _, .slice e, _⟩ => match tlk tab e with
      | some _ => some (e, d)
      | none => none
    | _, _ => none
  | _, _, _ => none
theorem Sq.lit0R {ops l : List Oper} {o : Oper} {e : TypeId} {d : Nat} {K : Store → Prop} (hT : TabOk P tab) (h : evLit0 tab n ops o m = some (e, d)) (k : Sq P G n ops l ((.s d, .raw e true []) :: m) K) : Sq P G n ops (o :: l) m K := by
  obtain ⟨dst, op, type, pos, after, guard⟩ := o
  unfold evLit0 at h
  simp only at h
  split at h
  · rename_i t d' hgd
    split at h
    · rename_i e' _ hlt ht
      split at h
      · rename_i de he
        simp only [Option.some.injEq, Prod.mk.injEq] at h
        obtain ⟨rfl, rfl⟩ := h
        refine Sq.do hgd (fun Γ M Ow a w hr => ?_) k
        obtain ⟨ie, hie, hsz, _⟩ := hT.info he
        have hu := hT.slice ht rfl
        refine ⟨.slice (some ⟨w.heap.size, 0, none⟩) 0 0, w.alloc (.cells #[] e'), ?_, ?_⟩
        · have := run_buildSlice0 (P := P) (w := w) (parts := #[]) hu hie rfl
          have e0 : Array.map (fun (x : Nat × Operand) => (x.1, a.eval x.2)) ⟨[]⟩ = #[] := by simp
          simp only [execOp]
          rw [Sem.run_bind, e0, this]
          rfl
        · have := putraw_new (z := true) (cap := 0) (xs := []) hr (Nat.lt_of_succ_le (Nat.le_of_ble_eq_true hlt)) hie (below_alloc w (.cells #[] e')) (alloc_at w _) (by simp) (by simp) (by simp) (by simp) (by simp)
          simpa using this
      · cases h
    · cases h
  · cases h

/-! append -/
def evAppR (tab : Tab) (n : Nat) (ops : List Oper) (o : Oper) (m : Store) : Option (TypeId × Nat × Nat × Bool × List T × List T × Nat) := match o.op, o.dst, gOk m ops o.guard with
  | .call ⟨.builtin .append, ⟨[x, y]⟩, ⟨[t, t']⟩⟩, some d, true => match Nat.blt d n, Nat.beq t t', tlk tab t with
    | true, true, some ⟨_, _, .slice e, _⟩ => match tlk tab e, opV m y with
      | some ⟨es, by', _, zs⟩, some yv => match Nat.beq zs.length es, Nat.ble 1 es, Nat.ble by' 131072, Nat.ble 1 by', lsOf yv with
        | true, true, true, true, some ys => match x with
          | .tmp s => match lk m (.s s) with
            | some (.raw e' z xs) => match Nat.beq e' e with
              | true => some (e, es, s, z, xs, ys, d)
              | false => none
            | _ => none
          | .const (.slice none 0 0) => some (e, es, d, true, [], ys, d)
          | _ => none
        | _, _, _, _, _ => none
      | _, _ => none
    | _, _, _ => none
  | _, _, _ => none
theorem Sq.appendR {ops l : List Oper} {o : Oper} {e es s d : Nat} {z : Bool} {xs ys : List T} {K : Store → Prop} (hT : TabOk P tab) (h : evAppR tab n ops o m = some (e, es, s, z, xs, ys, d)) (hys : ∀ y, y ∈ ys → y.cells.length = es) (hlen : xs.length + ys.length ≤ 1073741824)
    (k : Sq P G n ops l ((.s d, .raw e z (xs ++ ys)) :: (.s s, .unk) :: m) K) : Sq P G n ops (o :: l) m K := by
  obtain ⟨dst, op, type, pos, after, guard⟩ := o
  unfold evAppR at h
  simp only at h
  split at h
  · rename_i x y t t' d' hgd
    split at h
    · rename_i e0 _ hlt htt ht
      split at h
      · rename_i es' by' kd zs yv he hyv
        split at h
        · rename_i ys' hz1 hz2 hz3 hz4 hls
          obtain rfl : t = t' := Nat.eq_of_beq_eq_true htt
          have hd : d' < n := Nat.lt_of_succ_le (Nat.le_of_ble_eq_true hlt)
          have hzl : zs.length = es' := Nat.eq_of_beq_eq_true hz1
          have hpos : 0 < es' := Nat.le_of_ble_eq_true hz2
          have hby : by' ≤ 131072 := Nat.le_of_ble_eq_true hz3
          have fin : ∀ {s0 : Nat} {z0 : Bool} {xs0 : List T}, (e0, es', s0, z0, xs0, ys', d') = (e, es, s, z, xs, ys, d) → (∀ (a : Act), ((lk m (.s s0) = some (.raw e0 z0 xs0) ∧ a.eval x = a.tmps.getD s0 undef) ∨ (xs0 = [] ∧ a.eval x = .slice none 0 0))) → Sq P G n ops (⟨some d', .call ⟨.builtin .append, ⟨[x, y]⟩, ⟨[t, t]⟩⟩, type, pos, after, guard⟩ :: l) m K := by
            intro s0 z0 xs0 heq hb
            simp only [Prod.mk.injEq] at heq
            obtain ⟨rfl, rfl, rfl, rfl, rfl, rfl, rfl⟩ := heq
            refine Sq.do hgd (fun Γ M Ow a w hr => ?_) k
            obtain ⟨q, hq⟩ := opV_ok hyv hr
            have hq := deg_vrel hq
            rw [lsOf_eq hls] at hq
            have hrep : Rep w M (.ls ys') (a.eval y) := by cases hq with | tr _ _ h => exact h
            have hb' : (xs0.length + ys'.length) * by' ≤ 140737488355328 := by
              have := Nat.mul_le_mul hlen hby
              omega
            obtain ⟨ie, hie, _⟩ := hT.info he
            have hbase : ∃ o, RawRel P w M e0 z0 xs0 (a.eval x) o ∧ ∀ b, o = some b → Ow (.s s0) 0 = some b := by
              rcases hb a with ⟨h1, h2⟩ | ⟨rfl, h2⟩
              · rw [h2]; exact ⟨_, hr.slot s0 _ h1, fun b hb => hb⟩
              · rw [h2]; exact ⟨none, ⟨ie, hie, (fun x hx => nomatch hx), .inl ⟨rfl, none, rfl⟩⟩, fun b hb => nomatch hb⟩
            obtain ⟨v, w', h1, h2⟩ := appendR_run hT hr (dt := _) (de := ⟨es', by', kd, zs⟩) ht rfl he hpos hzl hd (ty := type) hbase hrep hys hb' (by omega)
            refine ⟨v, w', ?_, h2⟩
            simp [execOp, resolve, invoke, builtin, h1]
          split at h
          · rename_i s0
            split at h
            · rename_i e' z0 xs0 hs0
              split at h
              · rename_i hee
                obtain rfl : e' = e0 := Nat.eq_of_beq_eq_true hee
                exact fin (Option.some.inj h) (fun a => .inl ⟨hs0, rfl⟩)
              · cases h
            · cases h
          · exact fin (Option.some.inj h) (fun a => .inr ⟨rfl, rfl⟩)
          · cases h
        · cases h
      · cases h
    · cases h
  · cases h

/-! parts -/
def evPartO (tab : Tab) (n : Nat) (ops : List Oper) (o : Oper) (m : Store) : Option (Nat × AV × Bd × Bd × Nat) := match o.op, o.dst, gOk m ops o.guard with
  | .slice t (.tmp s) lo hi none, some d, true => match Nat.blt d n, tlk tab t with
    | true, some ⟨_, _, .slice e, _⟩ => match tlk tab e, lk m (.s s), bdO m lo, bdO m hi with
      | some _, some (.own e' xs), some l, some h => match Nat.beq e' e with
        | true => some (s, .own e xs, l, h, d)
        | false => none
      | some _, some (.raw e' z xs), some l, some h => match Nat.beq e' e with
        | true => some (s, .raw e z xs, l, h, d)
        | false => none
      | _, _, _, _ => none
    | _, _ => none
  | _, _, _ => none
theorem RawRel.part {w : World} {M : Nat → Nat → Prop} {e : TypeId} {z : Bool} {xs : List T} {ad : Option Addr} {q cap : Nat} {o : Option Nat} (h : RawRel P w M e z xs (.slice ad q cap) o) {ie : TypeInfo} (hie : P.info? e = some ie) {l hi : Nat} (hl : l ≤ hi) (hhi : hi ≤ xs.length) :
    RawRel P w M e (z && l == 0) ((xs.drop l).take (hi - l)) (.slice (if cap = l then ad else ad.map (·.add (l * ie.size))) (hi - l) (cap - l)) o := by
  obtain ⟨i, hi1, hx, h⟩ := h
  obtain rfl : i = ie := by rw [hie] at hi1; exact (Option.some.inj hi1).symm
  refine ⟨i, hie, fun x hm => hx x (List.mem_of_mem_drop (List.mem_of_mem_take hm)), ?_⟩
  rcases h with ⟨rfl, ad0, e1⟩ | ⟨b, off, c, cs, rfl, e1, hz, hh, hs, hzs, hc, hn, h1, hr⟩
  · injection e1 with e1 e2 e3
    subst e1; subst e2; subst e3
    simp at hhi; subst hhi
    obtain rfl : l = 0 := by omega
    exact .inl ⟨by simp, ad, by simp⟩
  · injection e1 with e1 e2 e3
    subst e1; subst e3
    have hlen : ((xs.drop l).take (hi - l)).length = hi - l := by simp; omega
    by_cases ec : cap = l
    · rw [if_pos ec]
      have : hi - l = 0 := by omega
      exact .inl ⟨List.eq_nil_of_length_eq_zero (by omega), some ⟨b, off, none⟩, by rw [this]; congr 1; omega⟩
    · rw [if_neg ec]
      have e2 : l * i.size + (cap - l) * i.size = cap * i.size := by rw [← Nat.add_mul]; congr 1; omega
      refine .inr ⟨b, off + l * i.size, cap - l, cs, rfl, ?_, ?_, hh, by omega, ?_, by omega, hn, h1, ?_⟩
      · rw [hlen]; simp only [Option.map_some, add_lit]
      · intro h
        rw [Bool.and_eq_true, beq_iff_eq] at h
        rw [h.2, hz h.1]; simp
      · intro h
        rw [Bool.and_eq_true, beq_iff_eq] at h
        rw [h.2]; exact hzs h.1
      · intro i' j x y hx hy
        rw [List.getElem?_take] at hx
        split at hx
        · rw [List.getElem?_drop] at hx
          obtain ⟨u, hu, hru⟩ := hr (l + i') j x y hx hy
          refine ⟨u, ?_, hru⟩
          rw [Nat.add_mul] at hu
          rw [show off + l * i.size + i' * i.size + j = off + (l * i.size + i' * i.size) + j by omega]; exact hu
        · cases hx
/-- The part of a slice from a place on keeps its room. -/
theorem OwnRel.tail {w : World} {M : Nat → Nat → Prop} {e : TypeId} {xs : List T} {ad : Option Addr} {q cap : Nat} {o : Option Nat} (h : OwnRel P w M e xs (.slice ad q cap) o) {ie : TypeInfo} (hie : P.info? e = some ie) {l : Nat} (hl : l ≤ xs.length) :
    OwnRel P w M e (xs.drop l) (.slice (if cap = l then ad else ad.map (·.add (l * ie.size))) (xs.length - l) (cap - l)) o := by
  obtain ⟨i, hi1, hx, h⟩ := h
  obtain rfl : i = ie := by rw [hie] at hi1; exact (Option.some.inj hi1).symm
  refine ⟨i, hie, fun x hm => hx x (List.mem_of_mem_drop hm), ?_⟩
  rcases h with ⟨rfl, ad0, e1⟩ | ⟨b, off, c, cs, rfl, e1, hrep, hh, hs, hc, hn, h1⟩
  · injection e1 with e1 e2 e3
    subst e1; subst e2; subst e3
    simp at hl; subst hl
    exact .inl ⟨by simp, ad, by simp⟩
  · injection e1 with e1 e2 e3
    subst e1; subst e3; subst e2
    have hpart := hrep.part (es := i.size) (l := l) (hi := xs.length) hx hl (Nat.le_refl _)
    rw [show (xs.drop l).take (xs.length - l) = xs.drop l by rw [List.take_of_length_le (by simp)]] at hpart
    by_cases ec : cap = l
    · rw [if_pos ec]
      have : xs.length - l = 0 := by omega
      exact .inl ⟨List.eq_nil_of_length_eq_zero (by simp; omega), some ⟨b, off, none⟩, by rw [this]; congr 1; omega⟩
    · rw [if_neg ec] at hpart ⊢
      have e2 : l * i.size + (cap - l) * i.size = cap * i.size := by rw [← Nat.add_mul]; congr 1; omega
      have e3 : l * i.size + (xs.length - l) * i.size = xs.length * i.size := by rw [← Nat.add_mul]; congr 1; omega
      simp only [Option.map_some, add_lit] at hpart ⊢
      refine .inr ⟨b, off + l * i.size, cap - l, cs, rfl, by rw [List.length_drop], hpart, hh, by omega, by rw [List.length_drop]; omega, fun k hk => ?_, h1⟩
      rw [List.length_drop] at hk
      exact hn k (by omega)
theorem Rel.swap {Γ : Ctx} {M : Nat → Nat → Prop} {Ow : Loc → Nat → Option Nat} {a : Act} {w : World} (hr : Rel P Γ M Ow n m a w) {s d : Nat} (hd : d < n) {x : AV} (hx : x.isOwn = true) {cv : Value} (hv : SRel P w M Ow x cv (Ow (.s s) 0)) :
    RelX P Γ n ((.s d, x) :: (.s s, .unk) :: m) (a.put (some d) cv) w :=
  ⟨_, _, (hr.forget s).putv hd (o := Ow (.s s) 0) (own_any hx hv) (own_refs hx) (fun b hb => hr.forget_free hb)⟩
def evTake (n : Nat) (ops : List Oper) (o : Oper) (m : Store) : Option (Nat × AV × Nat) := match o.op, o.dst, gOk m ops o.guard with
  | .move (.tmp s), some d, true => match Nat.blt d n, lk m (.s s) with
    | true, some x => match x.isOwn with
      | true => some (s, x, d)
      | false => none
    | _, _ => none
  | _, _, _ => none
/-- A value goes from one slot to another one with all that it owns. -/
theorem Sq.take {ops l : List Oper} {o : Oper} {s d : Nat} {x : AV} {K : Store → Prop} (h : evTake n ops o m = some (s, x, d)) (k : Sq P G n ops l ((.s d, x) :: (.s s, x.deg) :: m) K) : Sq P G n ops (o :: l) m K := by
  obtain ⟨dst, op, type, pos, after, guard⟩ := o
  unfold evTake at h
  simp only at h
  split at h
  · rename_i s0 d' hgd
    split at h
    · rename_i x0 hlt hx
      split at h
      · rename_i hown
        simp only [Option.some.injEq, Prod.mk.injEq] at h
        obtain ⟨rfl, rfl, rfl⟩ := h
        refine Sq.do hgd (fun Γ M Ow a w hr => ?_) k
        obtain ⟨Ow', h'⟩ := hr.take (Nat.lt_of_succ_le (Nat.le_of_ble_eq_true hlt)) hown hx
        exact ⟨a.eval (.tmp s0), w, rfl, M, Ow', h'⟩
      · cases h
    · cases h
  · cases h
theorem Sq.partR {ops l : List Oper} {o : Oper} {e : TypeId} {z : Bool} {xs : List T} {s d : Nat} {lo hi : Bd} {K : Store → Prop} (hT : TabOk P tab) (h : evPartO tab n ops o m = some (s, .raw e z xs, lo, hi, d))
    (h0 : 0 ≤ lo.lo) (h1 : lo.lo ≤ hi.hi xs.length) (h2 : hi.hi xs.length ≤ xs.length)
    (k : Sq P G n ops l ((.s d, .raw e (z && lo.lo.toNat == 0) ((xs.drop lo.lo.toNat).take ((hi.hi xs.length).toNat - lo.lo.toNat))) :: (.s s, .unk) :: m) K) : Sq P G n ops (o :: l) m K := by
  obtain ⟨dst, op, type, pos, after, guard⟩ := o
  unfold evPartO at h
  simp only at h
  split at h
  · rename_i t s0 lo' hi' d' hgd
    split at h
    · rename_i e0 _ hlt ht
      split at h
      · split at h <;> first | (cases h; done) | (injection h with h; injection h with h1 h; injection h with h2 h; cases h2)
      · rename_i de e' z' xs' l' h' he hx hlo hhi
        split at h
        · rename_i hee
          obtain rfl : e' = e0 := Nat.eq_of_beq_eq_true hee
          simp only [Option.some.injEq, Prod.mk.injEq, AV.raw.injEq] at h
          obtain ⟨rfl, ⟨rfl, rfl, rfl⟩, rfl, rfl, rfl⟩ := h
          refine Sq.do hgd (fun Γ M Ow a w hr => ?_) k
          have hu := hT.slice ht rfl
          obtain ⟨ie, hie, hsz, _⟩ := hT.info he
          have hraw : RawRel P w M e' z' xs' (a.tmps.getD s0 undef) (Ow (.s s0) 0) := hr.slot s0 _ hx
          obtain ⟨ad, cap, e1, hcap⟩ : ∃ ad cap, a.tmps.getD s0 undef = .slice ad xs'.length cap ∧ xs'.length ≤ cap := by
            obtain ⟨_, _, _, ⟨rfl, ad, e1⟩ | ⟨b, off, cap, cs, _, e1, _, _, _, _, hc, _⟩⟩ := hraw
            · exact ⟨ad, 0, e1, Nat.le_refl _⟩
            · exact ⟨_, cap, e1, hc⟩
          have ex : a.eval (.tmp s0) = .slice ad xs'.length cap := e1
          rw [e1] at hraw
          have hb := run_bounds (P := P) (w := w) (isSlice := true) (q := xs'.length) (cap := cap) (bdO_ok hlo hr) (bdO_ok hhi hr) h0 h1 (by omega) hcap
          have hpart := hraw.part hie (l := l'.lo.toNat) (hi := (h'.hi xs'.length).toNat) (by omega) (by omega)
          refine ⟨_, w, ?_, hr.swap (Nat.lt_of_succ_le (Nat.le_of_ble_eq_true hlt)) (x := .raw _ _ _) rfl hpart⟩
          simp [execOp, Instr.sliceAt, Instr.slice, ex, run_underlying hu, hb, sizeOf, typeInfo, hie]
        · cases h
      · cases h
    · cases h
  · cases h
theorem Sq.tailO {ops l : List Oper} {o : Oper} {e : TypeId} {xs : List T} {s d : Nat} {lo : Bd} {K : Store → Prop} (hT : TabOk P tab) (h : evPartO tab n ops o m = some (s, .own e xs, lo, .no, d))
    (h0 : 0 ≤ lo.lo) (h1 : lo.lo ≤ xs.length)
    (k : Sq P G n ops l ((.s d, .own e (xs.drop lo.lo.toNat)) :: (.s s, .unk) :: m) K) : Sq P G n ops (o :: l) m K := by
  obtain ⟨dst, op, type, pos, after, guard⟩ := o
  unfold evPartO at h
  simp only at h
  split at h
  · rename_i t s0 lo' hi' d' hgd
    split at h
    · rename_i e0 _ hlt ht
      split at h
      · rename_i de e' xs' l' h' he hx hlo hhi
        split at h
        · rename_i hee
          obtain rfl : e' = e0 := Nat.eq_of_beq_eq_true hee
          simp only [Option.some.injEq, Prod.mk.injEq, AV.own.injEq] at h
          obtain ⟨rfl, ⟨rfl, rfl⟩, rfl, rfl, rfl⟩ := h
          refine Sq.do hgd (fun Γ M Ow a w hr => ?_) k
          have hu := hT.slice ht rfl
          obtain ⟨ie, hie, hsz, _⟩ := hT.info he
          have hown : OwnRel P w M e' xs' (a.tmps.getD s0 undef) (Ow (.s s0) 0) := hr.slot s0 _ hx
          obtain ⟨ad, cap, e1, hcap⟩ : ∃ ad cap, a.tmps.getD s0 undef = .slice ad xs'.length cap ∧ xs'.length ≤ cap := by
            obtain ⟨_, _, _, ⟨rfl, ad, e1⟩ | ⟨b, off, cap, cs, _, e1, _, _, _, hc, _⟩⟩ := hown
            · exact ⟨ad, 0, e1, Nat.le_refl _⟩
            · exact ⟨_, cap, e1, hc⟩
          have ex : a.eval (.tmp s0) = .slice ad xs'.length cap := e1
          rw [e1] at hown
          have hb := run_bounds (P := P) (w := w) (isSlice := true) (q := xs'.length) (cap := cap) (bdO_ok hlo hr) (bdO_ok hhi hr) h0 (by simpa [Bd.hi] using h1) (by simp [Bd.hi]; omega) hcap
          have hpart := hown.tail hie (l := l'.lo.toNat) (by omega)
          refine ⟨_, w, ?_, hr.swap (Nat.lt_of_succ_le (Nat.le_of_ble_eq_true hlt)) (x := .own _ _) rfl hpart⟩
          simp [execOp, Instr.sliceAt, Instr.slice, ex, run_underlying hu, hb, sizeOf, typeInfo, hie, Bd.hi]
        · cases h
      · split at h <;> first | (cases h; done) | (injection h with h; injection h with h1 h; injection h with h2 h; cases h2)
      · cases h
    · cases h
  · cases h
/-! an element of an array that is an element of what is only read -/
def evIdxAE (tab : Tab) (n : Nat) (ops : List Oper) (o : Oper) (m : Store) : Option (List T × Nat × Nat × Nat × Int × Nat) := match o.op, o.dst, gOk m ops o.guard with
  | .indexAddr t x i, some d, true => match Nat.blt d n, tlk tab t with
    | true, some ⟨_, _, .array len e, _⟩ => match tlk tab e, opV m x, opV m i with
      | some ⟨es, _, _, _⟩, some (.ep cs off), some (.tr (.sc (.int _ j))) => some (cs, off, len, es, j, d)
      | _, _, _ => none
    | _, _ => none
  | _, _, _ => none
theorem Sq.indexAE {ops l : List Oper} {o : Oper} {cs : List T} {off len es d : Nat} {j : Int} {K : Store → Prop} (hT : TabOk P tab) (h : evIdxAE tab n ops o m = some (cs, off, len, es, j, d)) (h0 : 0 ≤ j) (hj : j < len)
    (k : Sq P G n ops l ((.s d, .ep cs (off + j.toNat * es)) :: m) K) : Sq P G n ops (o :: l) m K := by
  obtain ⟨dst, op, type, pos, after, guard⟩ := o
  unfold evIdxAE at h
  simp only at h
  split at h
  · rename_i t ox oi d' hgd
    split at h
    · rename_i len0 e _ hlt ht
      split at h
      · rename_i es' _ _ _ cs' off' ik j' he hv hi
        simp only [Option.some.injEq, Prod.mk.injEq] at h
        obtain ⟨rfl, rfl, rfl, rfl, rfl, rfl⟩ := h
        refine Sq.do hgd (fun Γ M Ow a w hr => ?_) k
        obtain ⟨q1, hq1⟩ := opV_ok hv hr
        obtain ⟨q2, hq2⟩ := opV_ok hi hr
        have e2 := (sc_eval (Γ := Γ) hq2).1
        have hq1 : VRel w M (fun κ => Ow κ 0) (.ep cs' off') (a.eval ox) := hq1
        obtain ⟨ie, hie, hsz, _⟩ := hT.info he
        have hsz : ie.size = es' := hsz
        have hu := hT.array ht rfl
        have hin : 0 ≤ j' ∧ j' < (len0 : Int) := ⟨h0, hj⟩
        generalize hq : a.eval ox = q at hq1
        cases hq1 with
        | ep _ _ b ob f c1 c2 c3 c4 =>
          refine ⟨.pointer (some ⟨b, ob + (off' + j'.toNat * es'), none⟩), w, ?_, M, Ow, hr.put (Nat.lt_of_succ_le (Nat.le_of_ble_eq_true hlt)) (.ep _ _ b ob f c1 c2 c3 c4)⟩
          simp [execOp, hq, e2, Instr.indexAt, asIntOf, run_underlying hu, hin, sizeOf, typeInfo, hie, hsz, add_lit, Instr.sureAddr, Nat.add_assoc]
      · cases h
    · cases h
  · cases h
theorem Tr.scopeS {ι : Type} {c rest : Code} {Q : Exit → Store → Prop} (l : Nat) (hf : findLabel c l = some (.seq .skip rest)) (S : ι → Store) (μ : ι → Nat) (inv : ι → Prop)
    (first : Tr P G n c m (jumpQ l (fun m' => ∃ i, inv i ∧ Sub (S i) m') Q))
    (pass : ∀ i, inv i → Tr P G n rest (S i) (jumpQ l (fun m' => ∃ j, inv j ∧ μ j < μ i ∧ Sub (S j) m') Q)) : Tr P G n (.scope c) m Q :=
  Tr.scope l hf S μ inv first (fun i hi => Tr.seq (Tr.skip (pass i hi)))
end
end Go.Lg

set_option linter.unusedVariables false
set_option linter.unusedSimpArgs false
namespace Go.Lg.Sem
open Go
def rdy (A : List (BitVec 64)) (set : BitVec 64) (i : Nat) : Bool := match A[i]? with
  | some a => readyB a set i
  | none => false
theorem ready_bit (A : List (BitVec 64)) (set : BitVec 64) : ∀ (k i : Nat), k ≤ 64 → (readyUp A set k).getLsbD i = (decide (i < k) && rdy A set i)
  | 0, i, _ => by simp [readyUp]
  | k + 1, i, h => by
    have ih := ready_bit A set k i (by omega)
    have hb : (1#64 <<< k).getLsbD i = decide (i = k) := by
      rw [BitVec.getLsbD_shiftLeft, BitVec.getLsbD_one]
      by_cases e : i = k
      · subst e; simp; omega
      · simp [e]; omega
    unfold readyUp
    unfold rdy at *
    by_cases e : i = k
    · subst e
      cases hA : A[i]? with
      | none => simp only; rw [ih, hA]; simp
      | some a =>
        simp only
        cases hr : readyB a set i
        · simp only [Bool.false_eq_true, if_false]; rw [ih]; simp
        · simp only [if_true, BitVec.getLsbD_or]; rw [ih, hb]; simp
    · have e1 : decide (i < k + 1) = decide (i < k) := by
        rw [Bool.eq_iff_iff, decide_eq_true_eq, decide_eq_true_eq]; omega
      rw [e1]
      cases hA : A[k]? with
      | none => simp only; exact ih
      | some a =>
        simp only
        split
        · rw [BitVec.getLsbD_or, ih, hb]; simp [e]
        · exact ih
end Go.Lg.Sem

set_option linter.unusedVariables false
set_option linter.unusedSimpArgs false
namespace Go.Lg.Sem
open Go
theorem snoc_ind {α : Type} {P : List α → Prop} (h0 : P []) (h1 : ∀ l x, P l → P (l ++ [x])) : ∀ l, P l := fun l => by
  have : ∀ r : List α, P r.reverse := by
    intro r
    induction r with
    | nil => exact h0
    | cons x r ih => rw [List.reverse_cons]; exact h1 _ _ ih
  simpa using this l.reverse
theorem ahead_bit (n : Nat) (hn : n ≤ 64) : ∀ (es : List (Nat × Nat)), (∀ p, p ∈ es → p.1 < n ∧ p.2 < n) → ∀ (i : Nat) (a : BitVec 64), (aheadV n es)[i]? = some a → ∀ j, a.getLsbD j = es.any (fun p => p.2 == i && p.1 == j) := by
  intro es
  refine snoc_ind (P := fun es => (∀ p, p ∈ es → p.1 < n ∧ p.2 < n) → ∀ (i : Nat) (a : BitVec 64), (aheadV n es)[i]? = some a → ∀ j, a.getLsbD j = es.any (fun p => p.2 == i && p.1 == j)) ?_ ?_ es
  · intro _ i a ha j
    unfold aheadV at ha
    simp only [List.foldl_nil] at ha
    have : a = 0 := by
      have := List.mem_of_getElem? ha
      exact List.eq_of_mem_replicate this
    subst this; simp
  · intro es p ih hp i a ha j
    obtain ⟨h1, h2⟩ := hp p (by simp)
    have ih := ih (fun x hx => hp x (by simp [hx]))
    have e : aheadV n (es ++ [p]) = stepA (aheadV n es) p := by unfold aheadV; rw [List.foldl_append]; rfl
    have hl := ahead_len n es
    rw [e] at ha
    unfold stepA at ha
    rw [List.any_append]
    by_cases hi : p.2 = i
    · subst hi
      rw [List.getElem?_set_self (by omega)] at ha
      obtain rfl := Option.some.inj ha
      obtain ⟨b, hb⟩ : ∃ b, (aheadV n es)[p.2]? = some b := ⟨_, List.getElem?_eq_getElem (by omega)⟩
      rw [List.getD_eq_getElem?_getD, hb, Option.getD_some, BitVec.getLsbD_or, ih _ b hb j, BitVec.getLsbD_shiftLeft, BitVec.getLsbD_one]
      congr 1
      by_cases hj : p.1 = j
      · subst hj; simp; omega
      · have : ¬ (j - p.1 = 0 ∧ p.1 ≤ j ∧ j ≤ p.1) := by omega
        by_cases hlt : j < p.1
        · simp [hj, hlt]
        · have h0 : j - p.1 ≠ 0 := by omega
          simp [hj, h0]
    · rw [List.getElem?_set_ne hi] at ha
      rw [ih i a ha j]
      simp [hi]
end Go.Lg.Sem

set_option linter.unusedVariables false
set_option linter.unusedSimpArgs false
namespace Go.Lg.Sem
open Go
theorem ctz_bit (x : BitVec 64) (h : x ≠ 0#64) : x.getLsbD (Lib.ctz 64 x.toNat) = true ∧ Lib.ctz 64 x.toNat < 64 := by
  have h0 : x.toNat ≠ 0 := fun e => h (BitVec.eq_of_toNat_eq (by simpa using e))
  have hlt : x.toNat < 2 ^ 64 := x.isLt
  obtain ⟨m, hm, hc⟩ := Lib.ctzFrom_spec 64 x.toNat (by omega) hlt
  have e : Lib.ctz 64 x.toNat = Lib.ctzFrom 64 x.toNat := by unfold Lib.ctz; rw [if_neg h0]
  rw [e]
  generalize Lib.ctzFrom 64 x.toNat = c at *
  refine ⟨?_, hc⟩
  rw [BitVec.getLsbD, hm, Nat.testBit_eq_decide_div_mod_eq, Nat.mul_div_cancel_left _ (Nat.two_pow_pos c)]
  simp
/-- The list and the set of one and the same numbers, each less than n, none twice, each behind all that it needs. -/
structure OrdI (n : Nat) (es : List (Nat × Nat)) (out : List Nat) (set : BitVec 64) : Prop where
  nodup : out.Nodup
  lt : ∀ i, i ∈ out → i < n
  bits : ∀ i, set.getLsbD i = decide (i ∈ out)
  need : ∀ (k i : Nat), out[k]? = some i → ∀ j, (j, i) ∈ es → j ∈ out.take k
theorem OrdI.zero (n : Nat) (es : List (Nat × Nat)) : OrdI n es [] 0#64 := ⟨List.nodup_nil, fun i h => (nomatch h), fun i => by simp, fun k i h => by simp at h⟩
theorem rdy_iff {n : Nat} {es : List (Nat × Nat)} {out : List Nat} {set : BitVec 64} (h : OrdI n es out set) (hn : n ≤ 64) (hp : ∀ p, p ∈ es → p.1 < n ∧ p.2 < n) {i : Nat} (hi : i < n) :
    rdy (aheadV n es) set i = true ↔ i ∉ out ∧ ∀ j, (j, i) ∈ es → j ∈ out := by
  obtain ⟨a, ha⟩ : ∃ a, (aheadV n es)[i]? = some a := ⟨_, List.getElem?_eq_getElem (by rw [ahead_len]; exact hi)⟩
  have hb := ahead_bit n hn es hp i a ha
  unfold rdy
  rw [ha]
  simp only
  unfold readyB
  rw [Bool.and_eq_true, beq_iff_eq, beq_iff_eq]
  refine and_congr ?_ ?_
  · have hbi := h.bits i
    constructor
    · intro h0 hm
      rw [decide_eq_true hm] at hbi
      have : (set >>> i &&& 1#64).getLsbD 0 = true := by rw [BitVec.getLsbD_and, BitVec.getLsbD_ushiftRight]; simp [hbi]
      rw [h0] at this; simp at this
    · intro hm
      rw [decide_eq_false hm] at hbi
      apply BitVec.eq_of_getLsbD_eq
      intro k hk
      rw [BitVec.getLsbD_and, BitVec.getLsbD_ushiftRight]
      by_cases e : k = 0
      · subst e; simp [hbi]
      · simp [BitVec.getLsbD_one, e]
  · constructor
    · intro h0 j hj
      have hjn := (hp _ hj).1
      have : (a &&& ~~~set).getLsbD j = false := by rw [h0]; simp
      rw [BitVec.getLsbD_and, BitVec.getLsbD_not, hb j, h.bits j] at this
      have ht : (es.any fun p => p.2 == i && p.1 == j) = true := List.any_eq_true.2 ⟨(j, i), hj, by simp⟩
      rw [ht] at this
      simp at this
      exact this (by omega)
    · intro hall
      apply BitVec.eq_of_getLsbD_eq
      intro k hk
      rw [BitVec.getLsbD_and, BitVec.getLsbD_not, hb k, h.bits k]
      cases ht : es.any fun p => p.2 == i && p.1 == k
      · simp
      · obtain ⟨p, hpm, hpe⟩ := List.any_eq_true.1 ht
        simp only [Bool.and_eq_true, beq_iff_eq] at hpe
        obtain ⟨p1, p2⟩ := p
        obtain ⟨rfl, rfl⟩ := hpe
        have := hall p1 hpm
        simp [this]
end Go.Lg.Sem

set_option linter.unusedVariables false
set_option linter.unusedSimpArgs false
namespace Go.Lg.Sem
open Go
inductive EdgeWay (es : List (Nat × Nat)) : Nat → Nat → Prop
  | one {a b : Nat} : (a, b) ∈ es → EdgeWay es a b
  | snoc {a b c : Nat} : EdgeWay es a b → (b, c) ∈ es → EdgeWay es a c
theorem EdgeWay.trans {es : List (Nat × Nat)} {a b c : Nat} (h : EdgeWay es a b) (k : EdgeWay es b c) : EdgeWay es a c := by
  induction k with
  | one e => exact .snoc h e
  | snoc _ e ih => exact .snoc ih e
def CycP (n : Nat) (es : List (Nat × Nat)) : Prop := ∃ a, a < n ∧ EdgeWay es a a
theorem nodup_lt : ∀ (n : Nat) (l : List Nat), l.Nodup → (∀ i, i ∈ l → i < n) → l.length ≤ n
  | 0, l, _, h => by
    cases l with
    | nil => exact Nat.le_refl _
    | cons x r => exact absurd (h x (List.mem_cons_self ..)) (by omega)
  | n + 1, l, hd, h => by
    by_cases hn : n ∈ l
    · have h1 := nodup_lt n (l.erase n) (hd.erase n) (fun i hi => by
        have h2 := (hd.mem_erase_iff).1 hi
        have := h i h2.2
        have := h2.1
        omega)
      rw [List.length_erase_of_mem hn] at h1
      omega
    · have h1 := nodup_lt n l hd (fun i hi => by
        have := h i hi
        have : i ≠ n := fun e => hn (e ▸ hi)
        omega)
      omega
theorem bv_ne {x : BitVec 64} : x ≠ 0#64 ↔ ∃ i, x.getLsbD i = true := by
  constructor
  · intro h
    exact ⟨_, (ctz_bit x h).1⟩
  · rintro ⟨i, hi⟩ rfl
    simp at hi
theorem OrdI.step {n : Nat} {es : List (Nat × Nat)} {out : List Nat} {set : BitVec 64} (h : OrdI n es out set) (hn : n ≤ 64) (hp : ∀ p, p ∈ es → p.1 < n ∧ p.2 < n) (hx : readyV n es set ≠ 0#64) :
    Lib.ctz 64 (readyV n es set).toNat < n ∧ OrdI n es (out ++ [Lib.ctz 64 (readyV n es set).toNat]) (set ||| (1#64 <<< Lib.ctz 64 (readyV n es set).toNat)) := by
  obtain ⟨h1, h2⟩ := ctz_bit _ hx
  have hb : (readyV n es set).getLsbD (Lib.ctz 64 (readyV n es set).toNat) = (decide (Lib.ctz 64 (readyV n es set).toNat < n) && rdy (aheadV n es) set (Lib.ctz 64 (readyV n es set).toNat)) := by
    unfold readyV; exact ready_bit _ _ n _ hn
  generalize Lib.ctz 64 (readyV n es set).toNat = i at *
  rw [h1] at hb
  have hb := hb.symm
  rw [Bool.and_eq_true, decide_eq_true_eq] at hb
  obtain ⟨hin, hr⟩ := hb
  obtain ⟨hout, hall⟩ := (rdy_iff h hn hp hin).1 hr
  refine ⟨hin, ?_, ?_, ?_, ?_⟩
  · rw [List.nodup_append]
    refine ⟨h.nodup, by simp, ?_⟩
    intro a ha b hb
    simp at hb; subst hb
    exact fun e => hout (e ▸ ha)
  · intro j hj
    rcases List.mem_append.1 hj with hj | hj
    · exact h.lt j hj
    · simp at hj; omega
  · intro j
    rw [BitVec.getLsbD_or, h.bits j, BitVec.getLsbD_shiftLeft, BitVec.getLsbD_one]
    by_cases e : j = i
    · subst e; simp; omega
    · by_cases hj : j ∈ out
      · simp [hj]
      · simp [hj, e]; omega
  · intro k j hk j' hj'
    rcases Nat.lt_or_ge k out.length with hl | hl
    · rw [List.getElem?_append_left hl] at hk
      have := h.need k j hk j' hj'
      rw [List.take_append_of_le_length (by omega)]; exact this
    · rw [List.getElem?_append_right hl] at hk
      have hk0 : k - out.length = 0 := by
        rcases Nat.eq_zero_or_pos (k - out.length) with e | e
        · exact e
        · rw [List.getElem?_eq_none (by simp; omega)] at hk; cases hk
      rw [hk0] at hk
      simp at hk; subst hk
      have : k = out.length := by omega
      subst this
      rw [List.take_left']
      · exact hall j' hj'
      · rfl
/-- Numbers that lead back and back lead in a circle. -/
theorem circle_of {es : List (Nat × Nat)} (n : Nat) (U : Nat → Prop) (hU : ∀ i, U i → i < n ∧ ∃ j, U j ∧ (j, i) ∈ es) (i0 : Nat) (h0 : U i0) : CycP n es := by
  -- a way back of any length, as a list whose head is the last one that was found
  have way : ∀ k, ∃ l : List Nat, l.length = k + 1 ∧ (∀ x, x ∈ l → U x) ∧ l.Pairwise (fun a b => EdgeWay es a b) := by
    intro k
    induction k with
    | zero => exact ⟨[i0], rfl, by simpa using h0, by simp⟩
    | succ k ih =>
      obtain ⟨l, hl, hu, hp⟩ := ih
      cases l with
      | nil => simp at hl
      | cons x r =>
        obtain ⟨_, j, hj, he⟩ := hU x (hu x (List.mem_cons_self ..))
        refine ⟨j :: x :: r, by simp at hl ⊢; omega, ?_, ?_⟩
        · intro y hy
          rcases List.mem_cons.1 hy with rfl | hy
          · exact hj
          · exact hu y hy
        · rw [List.pairwise_cons]
          refine ⟨?_, hp⟩
          intro y hy
          rcases List.mem_cons.1 hy with rfl | hy
          · exact .one he
          · exact (EdgeWay.one he).trans ((List.pairwise_cons.1 hp).1 y hy)
  obtain ⟨l, hl, hu, hp⟩ := way n
  have hnd : ¬ l.Nodup := fun hd => by
    have := nodup_lt n l hd (fun i hi => (hU i (hu i hi)).1)
    omega
  apply Classical.byContradiction
  intro hc
  refine hnd ?_
  have : ∀ l : List Nat, (∀ x, x ∈ l → U x) → l.Pairwise (fun a b => EdgeWay es a b) → l.Nodup := by
    intro l
    induction l with
    | nil => intro _ _; exact List.nodup_nil
    | cons x r ih =>
      intro hu hp
      rw [List.pairwise_cons] at hp
      rw [List.nodup_cons]
      refine ⟨fun hx => hc ⟨x, (hU x (hu x (List.mem_cons_self ..))).1, hp.1 x hx⟩, ih (fun y hy => hu y (List.mem_cons_of_mem _ hy)) hp.2⟩
  exact this l hu hp
theorem OrdI.done {n : Nat} {es : List (Nat × Nat)} {out : List Nat} {set : BitVec 64} (h : OrdI n es out set) (hn : n ≤ 64) (hp : ∀ p, p ∈ es → p.1 < n ∧ p.2 < n) (hx : readyV n es set = 0#64) : out.length < n ↔ CycP n es := by
  have hno : ∀ i, i < n → i ∉ out → ∃ j, j < n ∧ j ∉ out ∧ (j, i) ∈ es := by
    intro i hi ho
    apply Classical.byContradiction
    intro hc
    have : rdy (aheadV n es) set i = true := (rdy_iff h hn hp hi).2 ⟨ho, fun j hj => Classical.byContradiction fun hjo => hc ⟨j, (hp _ hj).1, hjo, hj⟩⟩
    have hb : (readyV n es set).getLsbD i = (decide (i < n) && rdy (aheadV n es) set i) := by unfold readyV; exact ready_bit _ _ n _ hn
    rw [hx, this] at hb
    simp [hi] at hb
  constructor
  · intro hlt
    obtain ⟨i0, hi0, ho0⟩ : ∃ i, i < n ∧ i ∉ out := by
      apply Classical.byContradiction
      intro hc
      have hall : ∀ i, i < n → i ∈ out := fun i hi => Classical.byContradiction fun ho => hc ⟨i, hi, ho⟩
      have := (List.nodup_range (n := n)).length_le_of_subset (fun i hi => hall i (List.mem_range.1 hi))
      simp at this
      omega
    refine circle_of n (fun i => i < n ∧ i ∉ out) ?_ i0 ⟨hi0, ho0⟩
    rintro i ⟨hi, ho⟩
    obtain ⟨j, hj, hjo, hje⟩ := hno i hi ho
    exact ⟨hi, j, ⟨hj, hjo⟩, hje⟩
  · rintro ⟨a, ha, hr⟩
    apply Classical.byContradiction
    intro hge
    -- all are in the order: a way leads on in it
    have hall : ∀ i, i < n → i ∈ out := by
      intro i hi
      apply Classical.byContradiction
      intro ho
      have := nodup_lt n (i :: out) (List.nodup_cons.2 ⟨ho, h.nodup⟩) (fun j hj => by
        rcases List.mem_cons.1 hj with rfl | hj
        · exact hi
        · exact h.lt j hj)
      simp at this
      omega
    have key : ∀ a b, EdgeWay es a b → ∀ k, out[k]? = some b → a ∈ out.take k := by
      intro a b hr
      induction hr with
      | one e => intro k hk; exact h.need k _ hk _ e
      | snoc hab e ih =>
        intro k hk
        have hb := h.need k _ hk _ e
        obtain ⟨k', hk'⟩ := List.mem_iff_getElem?.1 hb
        have hlt : k' < k := by
          rcases Nat.lt_or_ge k' k with h | h
          · exact h
          · rw [List.getElem?_take, if_neg (by omega)] at hk'; cases hk'
        rw [List.getElem?_take, if_pos hlt] at hk'
        have := ih k' hk'
        have hsub : ∀ x, x ∈ out.take k' → x ∈ out.take k := by
          intro x hx
          obtain ⟨q, hq⟩ := List.mem_iff_getElem?.1 hx
          have hql : q < k' := by
            rcases Nat.lt_or_ge q k' with h | h
            · exact h
            · rw [List.getElem?_take, if_neg (by omega)] at hq; cases hq
          rw [List.getElem?_take, if_pos hql] at hq
          refine List.mem_iff_getElem?.2 ⟨q, ?_⟩
          rw [List.getElem?_take, if_pos (by omega)]; exact hq
        exact hsub _ this
    obtain ⟨k, hk⟩ := List.mem_iff_getElem?.1 (hall a ha)
    have hm := key a a hr k hk
    obtain ⟨q, hq⟩ := List.mem_iff_getElem?.1 hm
    have hql : q < k := by
      rcases Nat.lt_or_ge q k with h | h
      · exact h
      · rw [List.getElem?_take, if_neg (by omega)] at hq; cases hq
    rw [List.getElem?_take, if_pos hql] at hq
    have hkl : k < out.length := by
      rcases Nat.lt_or_ge k out.length with h | h
      · exact h
      · rw [List.getElem?_eq_none h] at hk; cases hk
    have hd := List.pairwise_iff_getElem.1 h.nodup q k (by omega) hkl hql
    rw [List.getElem?_eq_getElem (by omega)] at hq
    rw [List.getElem?_eq_getElem hkl] at hk
    exact hd (Option.some.inj (hq.trans hk.symm))
end Go.Lg.Sem

set_option linter.unusedVariables false
set_option linter.unusedSimpArgs false
namespace Go.Lg.Tryz
open Go Go.Proofs Go.RowKit Go.Lib Go.Lg.Sem
set_option maxRecDepth 8192 in
theorem Order_ok (n : Nat) (es : List (Nat × Nat)) (hn : n ≤ 64) (hl : es.length ≤ 4096) (hp : ∀ p, p ∈ es → p.1 < n ∧ p.2 < n) (cyc : Bool) (hc : cyc = true ↔ CycP n es) :
    Fn Tryz.prog Gw 19 [.tr (grT n es)] [] (fun x => ∃ l, x = .tup [.tr (.ls l), int (if cyc then 21 else 0)]) := by
  have hK := gCheck_ok n es hn hl hp
  refine Fn.of tab_ok Tryz.func19 rfl (by decide) (by simp [Tryz.f19]) rfl (fun κ v h => by cases h) Gw.below ?_
  repeat' (first | refine Tr.seq ?_ | refine Tr.region ?_ | refine Sq.ev tab_ok rfl rfl ?_ | refine Sq.nil ?_ | (refine Sq.guard rfl rfl (fun _ => ?_) (fun _ => ?_) <;> refine Sq.ev tab_ok rfl rfl ?_) | (refine Tr.cond rfl (fun _ => ?_) (fun _ => ?_) <;> try (rename_i h; cases h; done)) | refine Tr.block ?_ | refine Tr.skip ?_ | refine Tr.ret ⟨_, rfl, ?_⟩)
  refine (fun hp => Tr.scopeS (ι := List Nat × BitVec 64) 0 rfl (fun i => [(.s 1, .ptr (.l 1) 0), (.l 1, .blk 39 [int n, .tr (.ls (es.map edT))]), (.s 5, .own 3 (i.1.map fun k : Nat => .sc (.int .i64 (k : Int)))), (.s 6, u64 i.2)]) (fun i => n - i.1.length) (fun i => OrdI n es i.1 i.2) ?_ hp) ?_
  · repeat' (first | refine Tr.seq ?_ | refine Tr.region ?_ | refine Sq.ev tab_ok rfl rfl ?_ | refine Sq.nil ?_ | (refine Sq.guard rfl rfl (fun _ => ?_) (fun _ => ?_) <;> refine Sq.ev tab_ok rfl rfl ?_) | (refine Tr.cond rfl (fun _ => ?_) (fun _ => ?_) <;> try (rename_i h; cases h; done)) | refine Tr.block ?_ | refine Tr.skip ?_ | refine Tr.ret ⟨_, rfl, ?_⟩)
    refine Sq.callv rfl (hK) ?_
    repeat' (first | refine Tr.seq ?_ | refine Tr.region ?_ | refine Sq.ev tab_ok rfl rfl ?_ | refine Sq.nil ?_ | (refine Sq.guard rfl rfl (fun _ => ?_) (fun _ => ?_) <;> refine Sq.ev tab_ok rfl rfl ?_) | (refine Tr.cond rfl (fun _ => ?_) (fun _ => ?_) <;> try (rename_i h; cases h; done)) | refine Tr.block ?_ | refine Tr.skip ?_ | refine Tr.ret ⟨_, rfl, ?_⟩)
    refine Tr.label ?_
    refine Tr.sub (m' := [_, _, _, _]) ?_ (Tr.mono (hp ([], 0#64) (OrdI.zero n es)) ?_)
    · exact ⟨rfl, rfl, rfl, rfl, trivial⟩
    · intro e m hq
      cases e with
      | goto l =>
        obtain ⟨h1, j, h2, _, h3⟩ := hq
        exact ⟨h1, j, h2, h3⟩
      | _ => exact hq
  · rintro ⟨out, set⟩ hi
    have hi : OrdI n es out set := hi
    have hR := ready_ok n es set hn hl hp
    have hle : out.length ≤ n := nodup_lt n out hi.nodup hi.lt
    by_cases hx : readyV n es set = 0#64
    · rw [hx] at hR
      have hd := hi.done hn hp hx
      repeat' (first | refine Tr.seq ?_ | refine Tr.region ?_ | refine Sq.ev tab_ok rfl rfl ?_ | refine Sq.nil ?_ | (refine Sq.guard rfl rfl (fun _ => ?_) (fun _ => ?_) <;> refine Sq.ev tab_ok rfl rfl ?_) | (refine Tr.cond rfl (fun _ => ?_) (fun _ => ?_) <;> try (rename_i h; cases h; done)) | refine Tr.block ?_ | refine Tr.skip ?_ | refine Tr.ret ⟨_, rfl, ?_⟩)
      refine Sq.callv rfl (hR) ?_
      repeat' (first | refine Tr.seq ?_ | refine Tr.region ?_ | refine Sq.ev tab_ok rfl rfl ?_ | refine Sq.nil ?_ | (refine Sq.guard rfl rfl (fun _ => ?_) (fun _ => ?_) <;> refine Sq.ev tab_ok rfl rfl ?_) | (refine Tr.cond rfl (fun _ => ?_) (fun _ => ?_) <;> try (rename_i h; cases h; done)) | refine Tr.block ?_ | refine Tr.skip ?_ | refine Tr.ret ⟨_, rfl, ?_⟩)
      · rename_i h2
        have h2 : decide ((((out.map fun k : Nat => T.sc (.int .i64 (k : Int))).length : Nat) : Int) < (n : Int)) = true := h2
        simp only [List.length_map, decide_eq_true_eq] at h2
        rw [if_pos (hc.2 (hd.1 (by omega)))]
        exact ⟨_, rfl⟩
      · rename_i h2
        have h2 : decide ((((out.map fun k : Nat => T.sc (.int .i64 (k : Int))).length : Nat) : Int) < (n : Int)) = false := h2
        simp only [List.length_map, decide_eq_false_iff_not] at h2
        rw [if_neg (fun e => h2 (by have := hd.2 (hc.1 e); omega))]
        exact ⟨_, rfl⟩
    · obtain ⟨hlt, hst⟩ := hi.step hn hp hx
      have hT := tz_ok (readyV n es set)
      generalize readyV n es set = R at *
      generalize Lib.ctz 64 R.toNat = k at *
      repeat' (first | refine Tr.seq ?_ | refine Tr.region ?_ | refine Sq.ev tab_ok rfl rfl ?_ | refine Sq.nil ?_ | (refine Sq.guard rfl rfl (fun _ => ?_) (fun _ => ?_) <;> refine Sq.ev tab_ok rfl rfl ?_) | (refine Tr.cond rfl (fun _ => ?_) (fun _ => ?_) <;> try (rename_i h; cases h; done)) | refine Tr.block ?_ | refine Tr.skip ?_ | refine Tr.ret ⟨_, rfl, ?_⟩)
      refine Sq.callv rfl (hR) ?_
      repeat' (first | refine Tr.seq ?_ | refine Tr.region ?_ | refine Sq.ev tab_ok rfl rfl ?_ | refine Sq.nil ?_ | (refine Sq.guard rfl rfl (fun _ => ?_) (fun _ => ?_) <;> refine Sq.ev tab_ok rfl rfl ?_) | (refine Tr.cond rfl (fun _ => ?_) (fun _ => ?_) <;> try (rename_i h; cases h; done)) | refine Tr.block ?_ | refine Tr.skip ?_ | refine Tr.ret ⟨_, rfl, ?_⟩)
      · refine Sq.callv rfl (hT) ?_
        refine Sq.ev tab_ok rfl rfl ?_
        refine Sq.nil ?_
        refine Tr.seq ?_
        have hlen : (out.map fun k : Nat => T.sc (.int .i64 (k : Int))).length + 1 ≤ 1073741824 := by rw [List.length_map]; omega
        refine Tr.drawn ( DSq.ev tab_ok rfl rfl <| DSq.ev tab_ok rfl rfl <| DSq.ev tab_ok rfl rfl <| DSq.two rfl (fun q K hK => Sq.append tab_ok rfl (by simp; rfl) hlen (Sq.nil hK)) <| DSq.ev tab_ok rfl rfl <| DSq.ev tab_ok rfl rfl <| DSq.one rfl (fun q K hK => Sq.shift rfl 1#64 k rfl rfl (by omega) (Sq.nil hK)) <| DSq.one rfl (fun q K hK => Sq.bits rfl set (1#64 <<< k) (r := set ||| (1#64 <<< k)) rfl rfl rfl (Sq.nil hK)) <| DSq.ev tab_ok rfl rfl <| DSq.ev tab_ok rfl rfl <| DSq.nil _) mix_ok rfl ?_
        refine Tr.goto ?_
        have hlo : (out ++ [k]).length ≤ n := nodup_lt n _ hst.nodup hst.lt
        rw [List.length_append] at hlo
        refine ⟨rfl, (out ++ [k], _), hst, ?_, ?_⟩
        · show n - (out ++ [k]).length < n - out.length
          rw [List.length_append]; simp at hlo ⊢; omega
        · exact Sub.app (l := [_, _, _, _]) (H := []) ⟨rfl, rfl, congrArg some (congrArg (AV.own _) (by simp)), rfl, trivial⟩ (fun κ v h => nomatch h)
      all_goals
        exfalso
        rename_i h2 _
        have h2 : ((R.toNat : Int) != 0) = false := h2
        have h3 := bv_zero R
        simp only [bne, Bool.not_eq_false'] at h2
        rw [h3, beq_iff_eq] at h2
        exact hx h2
end Go.Lg.Tryz

set_option linter.unusedVariables false
set_option linter.unusedSimpArgs false
namespace Go.Lg.Sem
open Go
def falses : List Bool → Nat
  | [] => 0
  | b :: r => (if b then 0 else 1) + falses r
theorem falses_rep : ∀ n, falses (List.replicate n false) = n
  | 0 => rfl
  | n + 1 => by rw [List.replicate_succ]; simp only [falses]; rw [falses_rep n]; simp; omega
theorem falses_set : ∀ (o : List Bool) (y : Nat), o[y]? = some false → falses (o.set y true) + 1 = falses o
  | b :: r, 0, h => by simp at h; subst h; simp [falses]; omega
  | b :: r, y + 1, h => by
    have := falses_set r y (by simpa using h)
    simp only [List.set_cons_succ, falses]; omega
  | [], y, h => by simp at h
structure FromI (n : Nat) (es : List (Nat × Nat)) (a : Nat) (o : List Bool) (q : List Nat) : Prop where
  len : o.length = n
  sound : ∀ y, o[y]? = some true → EdgeWay es a y
  qlt : ∀ x, x ∈ q → x < n ∧ (x = a ∨ EdgeWay es a x)
  clos : ∀ x, (x = a ∨ o[x]? = some true) → x ∈ q ∨ ∀ y, (x, y) ∈ es → o[y]? = some true
  mu : 2 * falses o + q.length ≤ 2 * n + 1
structure InI (n : Nat) (es : List (Nat × Nat)) (a x : Nat) (m0 : Nat) (o : List Bool) (q : List Nat) (k : Nat) : Prop where
  len : o.length = n
  sound : ∀ y, o[y]? = some true → EdgeWay es a y
  qlt : ∀ x, x ∈ q → x < n ∧ (x = a ∨ EdgeWay es a x)
  xr : x = a ∨ EdgeWay es a x
  clos : ∀ z, (z = a ∨ o[z]? = some true) → z ∈ q ∨ (z = x ∧ ∀ j y, j < k → es[j]? = some (x, y) → o[y]? = some true) ∨ ∀ y, (z, y) ∈ es → o[y]? = some true
  mu : 2 * falses o + q.length < m0
  m0 : m0 ≤ 2 * n + 1
  kle : k ≤ es.length
theorem FromI.init {n : Nat} {es : List (Nat × Nat)} {a : Nat} (ha : a < n) : FromI n es a (List.replicate n false) [a] := by
  have hno : ∀ y, (List.replicate n false)[y]? ≠ some true := fun y h => by
    have := List.mem_of_getElem? h
    have := List.eq_of_mem_replicate this
    cases this
  refine ⟨by simp, fun y h => absurd h (hno y), fun x hx => by simp at hx; subst hx; exact ⟨ha, .inl rfl⟩, fun x hx => ?_, by rw [falses_rep]; simp⟩
  rcases hx with rfl | h
  · exact .inl (by simp)
  · exact absurd h (hno x)
theorem FromI.pop {n : Nat} {es : List (Nat × Nat)} {a x : Nat} {o : List Bool} {q : List Nat} (h : FromI n es a o (x :: q)) : InI n es a x (2 * falses o + (x :: q).length) o q 0 := by
  refine ⟨h.len, h.sound, fun y hy => h.qlt y (List.mem_cons_of_mem _ hy), (h.qlt x (List.mem_cons_self ..)).2, fun z hz => ?_, by simp, h.mu, Nat.zero_le _⟩
  rcases h.clos z hz with h1 | h1
  · rcases List.mem_cons.1 h1 with rfl | h1
    · exact .inr (.inl ⟨rfl, fun j y hj => absurd hj (Nat.not_lt_zero _)⟩)
    · exact .inl h1
  · exact .inr (.inr h1)
theorem InI.skip {n : Nat} {es : List (Nat × Nat)} {a x m0 : Nat} {o : List Bool} {q : List Nat} {k u v : Nat} (h : InI n es a x m0 o q k) (hk : es[k]? = some (u, v)) (hs : u = x → o[v]? = some true) : InI n es a x m0 o q (k + 1) := by
  refine { h with clos := fun z hz => ?_, kle := ?_ }
  · rcases h.clos z hz with h1 | ⟨h1, h2⟩ | h1
    · exact .inl h1
    · refine .inr (.inl ⟨h1, fun j y hj hy => ?_⟩)
      rcases Nat.lt_succ_iff_lt_or_eq.1 hj with h3 | rfl
      · exact h2 j y h3 hy
      · rw [hk] at hy
        injection hy with hy; injection hy with h4 h5
        subst h4; subst h5; exact hs rfl
    · exact .inr (.inr h1)
  · rcases Nat.lt_or_ge k es.length with h | h
    · omega
    · rw [List.getElem?_eq_none h] at hk; cases hk
theorem InI.add {n : Nat} {es : List (Nat × Nat)} {a x m0 : Nat} {o : List Bool} {q : List Nat} {k v : Nat} (h : InI n es a x m0 o q k) (hk : es[k]? = some (x, v)) (hv : o[v]? = some false) : InI n es a x m0 (o.set v true) (q ++ [v]) (k + 1) := by
  have hlt : v < o.length := by
    rcases Nat.lt_or_ge v o.length with h | h
    · exact h
    · rw [List.getElem?_eq_none h] at hv; cases hv
  have hat : ∀ y, (o.set v true)[y]? = if v = y then some true else o[y]? := by
    intro y
    rw [List.getElem?_set]
    by_cases e : v = y
    · subst e; simp [hlt]
    · simp [e]
  have hrv : EdgeWay es a v := by
    have he : (x, v) ∈ es := List.mem_of_getElem? hk
    rcases h.xr with rfl | hr
    · exact .one he
    · exact .snoc hr he
  have keep : ∀ y, o[y]? = some true → (o.set v true)[y]? = some true := fun y hy => by rw [hat]; split <;> first | rfl | exact hy
  have hf := falses_set o v hv
  refine ⟨by rw [List.length_set]; exact h.len, fun y hy => ?_, fun y hy => ?_, h.xr, fun z hz => ?_, ?_, h.m0, ?_⟩
  · rw [hat] at hy
    split at hy
    · rename_i e; subst e; exact hrv
    · exact h.sound y hy
  · rcases List.mem_append.1 hy with hy | hy
    · exact h.qlt y hy
    · simp at hy; subst hy; exact ⟨by rw [← h.len]; exact hlt, .inr hrv⟩
  · have hz' : z = v ∨ (z = a ∨ o[z]? = some true) := by
      rcases hz with rfl | hz
      · exact .inr (.inl rfl)
      · rw [hat] at hz
        split at hz
        · rename_i e; exact .inl e.symm
        · exact .inr (.inr hz)
    rcases hz' with rfl | hz'
    · exact .inl (by simp)
    · rcases h.clos z hz' with h1 | ⟨h1, h2⟩ | h1
      · exact .inl (List.mem_append_left _ h1)
      · refine .inr (.inl ⟨h1, fun j y hj hy => ?_⟩)
        rcases Nat.lt_succ_iff_lt_or_eq.1 hj with h3 | rfl
        · exact keep y (h2 j y h3 hy)
        · rw [hk] at hy
          injection hy with hy; injection hy with _ h5
          subst h5; rw [hat, if_pos rfl]
      · exact .inr (.inr fun y hy => keep y (h1 y hy))
  · have := h.mu
    rw [List.length_append]; simp; omega
  · rcases Nat.lt_or_ge k es.length with h | h
    · omega
    · rw [List.getElem?_eq_none h] at hk; cases hk
theorem InI.done {n : Nat} {es : List (Nat × Nat)} {a x m0 : Nat} {o : List Bool} {q : List Nat} (h : InI n es a x m0 o q es.length) : FromI n es a o q := by
  refine ⟨h.len, h.sound, h.qlt, fun z hz => ?_, by have := h.mu; have := h.m0; omega⟩
  rcases h.clos z hz with h1 | ⟨rfl, h2⟩ | h1
  · exact .inl h1
  · refine .inr fun y hy => ?_
    obtain ⟨j, hj⟩ := List.mem_iff_getElem?.1 hy
    refine h2 j y ?_ hj
    rcases Nat.lt_or_ge j es.length with h | h
    · exact h
    · rw [List.getElem?_eq_none h] at hj; cases hj
  · exact .inr h1
theorem FromI.reach {n : Nat} {es : List (Nat × Nat)} {a : Nat} {o : List Bool} (h : FromI n es a o []) (y : Nat) : o[y]? = some true ↔ EdgeWay es a y := by
  refine ⟨h.sound y, fun hr => ?_⟩
  have cl : ∀ x, (x = a ∨ o[x]? = some true) → ∀ y, (x, y) ∈ es → o[y]? = some true := fun x hx => (h.clos x hx).resolve_left (by simp)
  induction hr with
  | one e => exact cl _ (.inl rfl) _ e
  | snoc _ e ih => exact cl _ (.inr ih) _ e
end Go.Lg.Sem

set_option linter.unusedVariables false
set_option linter.unusedSimpArgs false
namespace Go.Lg.Tryz
open Go Go.Proofs Go.RowKit Go.Lib Go.Lg.Sem
abbrev boolT (b : Bool) : T := .sc (.bool b)
abbrev natT (k : Nat) : T := .sc (.int .i64 (k : Int))
theorem From_ok (n : Nat) (es : List (Nat × Nat)) (a : Nat) (ha : a < n) (hn : n ≤ 64) (hl : es.length ≤ 4096) (hp : ∀ p, p ∈ es → p.1 < n ∧ p.2 < n) :
    Fn Tryz.prog Gw 64 [.tr (grT n es), int a] [] (fun x => ∃ o : List Bool, x = .tr (.ls (o.map boolT)) ∧ o.length = n ∧ ∀ y, o[y]? = some true ↔ EdgeWay es a y) := by
  refine Fn.of tab_ok Tryz.func64 rfl (by decide) (by simp [Tryz.f64]) rfl (fun κ v h => by cases h) Gw.below ?_
  repeat' (first | refine Tr.seq ?_ | refine Tr.region ?_ | refine Sq.ev tab_ok rfl rfl ?_ | refine Sq.nil ?_ | (refine Sq.guard rfl rfl (fun _ => ?_) (fun _ => ?_) <;> refine Sq.ev tab_ok rfl rfl ?_) | (refine Tr.cond rfl (fun _ => ?_) (fun _ => ?_) <;> try (rename_i h; cases h; done)) | refine Tr.block ?_ | refine Tr.skip ?_ | refine Tr.ret ⟨_, rfl, ?_⟩)
  refine Sq.make tab_ok rfl rfl (by omega) (by omega) (by omega) rfl ?_
  refine Sq.ev tab_ok rfl rfl ?_
  refine Sq.nil ?_
  repeat' (first | refine Tr.seq ?_ | refine Tr.region ?_ | refine Sq.ev tab_ok rfl rfl ?_ | refine Sq.nil ?_ | (refine Sq.guard rfl rfl (fun _ => ?_) (fun _ => ?_) <;> refine Sq.ev tab_ok rfl rfl ?_) | (refine Tr.cond rfl (fun _ => ?_) (fun _ => ?_) <;> try (rename_i h; cases h; done)) | refine Tr.block ?_ | refine Tr.skip ?_ | refine Tr.ret ⟨_, rfl, ?_⟩)
  refine Tr.loopS (ι := List Bool × List Nat) (fun i => [(.s 1, int a), (.s 2, .ptr (.l 2) 0), (.l 2, .blk 41 [int n, .tr (.ls (es.map edT))]), (.s 5, .sl (.l 12) n n), (.l 12, .blk 4 ((i.1.map boolT).map .tr)), (.s 6, .own 3 (i.2.map natT))]) (fun i => 2 * falses i.1 + i.2.length) (fun i => FromI n es a i.1 i.2)
    (List.replicate n false, [a]) (FromI.init ha) (Sub.app (l := [_, _, _, _, _, _]) (H := []) ⟨rfl, rfl, rfl, rfl, ?_, rfl, trivial⟩ (fun κ v h => nomatch h)) ?_
  · show some (AV.blk _ (List.replicate n _)) = some (AV.blk _ (((List.replicate n false).map boolT).map .tr))
    rw [List.map_replicate, List.map_replicate]
  rintro ⟨o, q⟩ hi
  have hi : FromI n es a o q := hi
  repeat' (first | refine Tr.seq ?_ | refine Tr.region ?_ | refine Sq.ev tab_ok rfl rfl ?_ | refine Sq.nil ?_ | (refine Sq.guard rfl rfl (fun _ => ?_) (fun _ => ?_) <;> refine Sq.ev tab_ok rfl rfl ?_) | (refine Tr.cond rfl (fun _ => ?_) (fun _ => ?_) <;> try (rename_i h; cases h; done)) | refine Tr.block ?_ | refine Tr.skip ?_ | refine Tr.ret ⟨_, rfl, ?_⟩)
  · rename_i h0
    cases q with
    | nil => exfalso; have h0 : decide (((([] : List Nat).map natT).length : Int) > 0) = true := h0; simp at h0
    | cons x q =>
    have hx := (hi.qlt x (List.mem_cons_self ..)).1
    have hin := hi.pop
    have hm0 : 2 * falses o + (x :: q).length ≤ 2 * n + 1 := hi.mu
    generalize 2 * falses o + (x :: q).length = m0 at *
    refine Sq.index (x := natT x) tab_ok rfl (by omega) (rfl) rfl ?_
    refine Sq.ev tab_ok rfl rfl ?_
    refine Sq.ev tab_ok rfl rfl ?_
    refine Sq.nil ?_
    refine Tr.seq ?_
    refine Tr.region ?_
    refine Sq.take rfl ?_
    refine Sq.tailO (lo := .at 1) tab_ok rfl (by simp [Bd.lo]) (by simp [Bd.lo]; omega) ?_
    refine Sq.ev tab_ok rfl rfl ?_
    refine Sq.nil ?_
    repeat' (first | refine Tr.seq ?_ | refine Tr.region ?_ | refine Sq.ev tab_ok rfl rfl ?_ | refine Sq.nil ?_ | (refine Sq.guard rfl rfl (fun _ => ?_) (fun _ => ?_) <;> refine Sq.ev tab_ok rfl rfl ?_) | (refine Tr.cond rfl (fun _ => ?_) (fun _ => ?_) <;> try (rename_i h; cases h; done)) | refine Tr.block ?_ | refine Tr.skip ?_ | refine Tr.ret ⟨_, rfl, ?_⟩)
    refine Tr.loopS (ι := List Bool × List Nat × Nat) (fun i => [(.s 1, int a), (.s 2, .ptr (.l 2) 0), (.l 2, .blk 41 [int n, .tr (.ls (es.map edT))]), (.s 5, .sl (.l 12) n n), (.l 12, .blk 4 ((i.1.map boolT).map .tr)), (.s 6, .own 3 (i.2.1.map natT)), (.s 7, int x), (.s 8, int i.2.2)]) (fun i => es.length - i.2.2) (fun i => InI n es a x m0 i.1 i.2.1 i.2.2)
      (o, q, 0) hin (Sub.app (l := [_, _, _, _, _, _, _, _]) (H := []) ⟨rfl, rfl, rfl, rfl, rfl, rfl, rfl, rfl, trivial⟩ (fun κ v h => nomatch h)) ?_
    rintro ⟨o, q, k⟩ hj
    have hj : InI n es a x m0 o q k := hj
    repeat' (first | refine Tr.seq ?_ | refine Tr.region ?_ | refine Sq.ev tab_ok rfl rfl ?_ | refine Sq.nil ?_ | (refine Sq.guard rfl rfl (fun _ => ?_) (fun _ => ?_) <;> refine Sq.ev tab_ok rfl rfl ?_) | (refine Tr.cond rfl (fun _ => ?_) (fun _ => ?_) <;> try (rename_i h; cases h; done)) | refine Tr.block ?_ | refine Tr.skip ?_ | refine Tr.ret ⟨_, rfl, ?_⟩)
    · rename_i h2
      have h2 : decide ((k : Int) < ((es.map edT).length : Int)) = true := h2
      have hlt : k < es.length := by simp only [List.length_map, decide_eq_true_eq] at h2; omega
      obtain ⟨⟨u, v⟩, hpk⟩ : ∃ p, es[k]? = some p := ⟨_, List.getElem?_eq_getElem hlt⟩
      have hpe : (es.map edT)[((k : Nat) : Int).toNat]? = some (edT (u, v)) := by simp [hpk]
      obtain ⟨h1, h3⟩ := hp _ (List.mem_of_getElem? hpk)
      have h3 : v < n := h3
      obtain ⟨b, hb⟩ : ∃ b, o[v]? = some b := ⟨_, List.getElem?_eq_getElem (by rw [hj.len]; omega)⟩
      have hbe : ((o.map boolT).map AV.tr)[((v : Nat) : Int).toNat * 1]? = some (bool b) := by simp [hb]
      refine Sq.index (x := edT (u, v)) tab_ok rfl (by omega) (hpe) rfl ?_
      refine Sq.indexAE tab_ok rfl (by omega) (by omega) ?_
      repeat' (first | refine Tr.seq ?_ | refine Tr.region ?_ | refine Sq.ev tab_ok rfl rfl ?_ | refine Sq.nil ?_ | (refine Sq.guard rfl rfl (fun _ => ?_) (fun _ => ?_) <;> refine Sq.ev tab_ok rfl rfl ?_) | (refine Tr.cond rfl (fun _ => ?_) (fun _ => ?_) <;> try (rename_i h; cases h; done)) | refine Tr.block ?_ | refine Tr.skip ?_ | refine Tr.ret ⟨_, rfl, ?_⟩)
      refine Sq.index (x := edT (u, v)) tab_ok rfl (by omega) (hpe) rfl ?_
      refine Sq.indexAE tab_ok rfl (by omega) (by omega) ?_
      repeat' (first | refine Tr.seq ?_ | refine Tr.region ?_ | refine Sq.ev tab_ok rfl rfl ?_ | refine Sq.nil ?_ | (refine Sq.guard rfl rfl (fun _ => ?_) (fun _ => ?_) <;> refine Sq.ev tab_ok rfl rfl ?_) | (refine Tr.cond rfl (fun _ => ?_) (fun _ => ?_) <;> try (rename_i h; cases h; done)) | refine Tr.block ?_ | refine Tr.skip ?_ | refine Tr.ret ⟨_, rfl, ?_⟩)
      · rename_i hux
        have hux : ((u : Int) == (x : Int)) = true := hux
        have hux : u = x := by rw [beq_iff_eq] at hux; omega
        subst hux
        refine Sq.indexS tab_ok rfl (by omega) (by omega) ?_
        refine Sq.loadS (v := bool b) tab_ok rfl hbe ?_
        cases b
        · repeat' (first | refine Tr.seq ?_ | refine Tr.region ?_ | refine Sq.ev tab_ok rfl rfl ?_ | refine Sq.nil ?_ | (refine Sq.guard rfl rfl (fun _ => ?_) (fun _ => ?_) <;> refine Sq.ev tab_ok rfl rfl ?_) | (refine Tr.cond rfl (fun _ => ?_) (fun _ => ?_) <;> try (rename_i h; cases h; done)) | refine Tr.block ?_ | refine Tr.skip ?_ | refine Tr.ret ⟨_, rfl, ?_⟩)
          refine Sq.indexS tab_ok rfl (by omega) (by omega) ?_
          refine Sq.storeS tab_ok rfl (by rw [List.length_map, List.length_map, hj.len]; omega) ?_
          repeat' (first | refine Tr.seq ?_ | refine Tr.region ?_ | refine Sq.ev tab_ok rfl rfl ?_ | refine Sq.nil ?_ | (refine Sq.guard rfl rfl (fun _ => ?_) (fun _ => ?_) <;> refine Sq.ev tab_ok rfl rfl ?_) | (refine Tr.cond rfl (fun _ => ?_) (fun _ => ?_) <;> try (rename_i h; cases h; done)) | refine Tr.block ?_ | refine Tr.skip ?_ | refine Tr.ret ⟨_, rfl, ?_⟩)
          refine Sq.append tab_ok rfl (fun y hy => by simp only [List.mem_singleton] at hy; subst hy; rfl) (by have h1 := hj.mu; have h2 := hj.m0; simp; omega) ?_
          repeat' (first | refine Tr.seq ?_ | refine Tr.region ?_ | refine Sq.ev tab_ok rfl rfl ?_ | refine Sq.nil ?_ | (refine Sq.guard rfl rfl (fun _ => ?_) (fun _ => ?_) <;> refine Sq.ev tab_ok rfl rfl ?_) | (refine Tr.cond rfl (fun _ => ?_) (fun _ => ?_) <;> try (rename_i h; cases h; done)) | refine Tr.block ?_ | refine Tr.skip ?_ | refine Tr.ret ⟨_, rfl, ?_⟩)
          have hset : ((o.map boolT).map AV.tr).set (((v : Nat) : Int).toNat * 1) (bool true) = ((o.set v true).map boolT).map AV.tr := by
            rw [Int.toNat_natCast, Nat.mul_one, List.map_set, List.map_set]
          exact ⟨(o.set v true, q ++ [v], k + 1), hj.add hpk hb, by show es.length - (k + 1) < es.length - k; omega, Sub.app (l := [_, _, _, _, _, _, _, _]) (H := []) ⟨rfl, rfl, rfl, rfl, congrArg some (congrArg (AV.blk _) hset), congrArg some (congrArg (AV.own _) (by simp)), rfl, congrArg some (wrapz (by (try dsimp only); omega) (by (try dsimp only); omega) (by (try dsimp only); omega)), trivial⟩ (fun κ v h => nomatch h)⟩
        · repeat' (first | refine Tr.seq ?_ | refine Tr.region ?_ | refine Sq.ev tab_ok rfl rfl ?_ | refine Sq.nil ?_ | (refine Sq.guard rfl rfl (fun _ => ?_) (fun _ => ?_) <;> refine Sq.ev tab_ok rfl rfl ?_) | (refine Tr.cond rfl (fun _ => ?_) (fun _ => ?_) <;> try (rename_i h; cases h; done)) | refine Tr.block ?_ | refine Tr.skip ?_ | refine Tr.ret ⟨_, rfl, ?_⟩)
          exact ⟨(o, q, k + 1), hj.skip hpk (fun _ => hb), by show es.length - (k + 1) < es.length - k; omega, Sub.app (l := [_, _, _, _, _, _, _, _]) (H := []) ⟨rfl, rfl, rfl, rfl, rfl, rfl, rfl, congrArg some (wrapz (by (try dsimp only); omega) (by (try dsimp only); omega) (by (try dsimp only); omega)), trivial⟩ (fun κ v h => nomatch h)⟩
      · rename_i hux _
        have hux : ((u : Int) == (x : Int)) = false := hux
        exact ⟨(o, q, k + 1), hj.skip hpk (fun e => by subst e; simp at hux), by show es.length - (k + 1) < es.length - k; omega, Sub.app (l := [_, _, _, _, _, _, _, _]) (H := []) ⟨rfl, rfl, rfl, rfl, rfl, rfl, rfl, congrArg some (wrapz (by (try dsimp only); omega) (by (try dsimp only); omega) (by (try dsimp only); omega)), trivial⟩ (fun κ v h => nomatch h)⟩
    · rename_i h2
      have h2 : decide ((k : Int) < ((es.map edT).length : Int)) = false := h2
      have hge : k = es.length := by simp only [List.length_map, decide_eq_false_iff_not] at h2; have := hj.kle; omega
      subst hge
      refine Tr.exit ?_
      repeat' (first | refine Tr.seq ?_ | refine Tr.region ?_ | refine Sq.ev tab_ok rfl rfl ?_ | refine Sq.nil ?_ | (refine Sq.guard rfl rfl (fun _ => ?_) (fun _ => ?_) <;> refine Sq.ev tab_ok rfl rfl ?_) | (refine Tr.cond rfl (fun _ => ?_) (fun _ => ?_) <;> try (rename_i h; cases h; done)) | refine Tr.block ?_ | refine Tr.skip ?_ | refine Tr.ret ⟨_, rfl, ?_⟩)
      exact ⟨(o, q), hj.done, hj.mu, Sub.app (l := [_, _, _, _, _, _]) (H := []) ⟨rfl, rfl, rfl, rfl, rfl, rfl, trivial⟩ (fun κ v h => nomatch h)⟩
  · rename_i h0
    cases q with
    | cons x q => exfalso; have h0 : decide (((((x :: q) : List Nat).map natT).length : Int) > 0) = false := h0; simp at h0
    | nil =>
    refine Tr.exit ?_
    have hlen := hi.len
    have hre := hi.reach
    refine Tr.turn (fun Γ a w h => RelX.freeze1 (xs := o.map boolT) (cap := n) h (s := 5) (κ := .l 12) ?_ rfl rfl ?_) ?_
    · show some (AV.sl _ _ _) = some (AV.sl _ _ _)
      rw [List.length_map, hlen]
    · intro y hy
      obtain ⟨v, _, rfl⟩ := List.mem_map.1 hy
      rfl
    repeat' (first | refine Tr.seq ?_ | refine Tr.region ?_ | refine Sq.ev tab_ok rfl rfl ?_ | refine Sq.nil ?_ | (refine Sq.guard rfl rfl (fun _ => ?_) (fun _ => ?_) <;> refine Sq.ev tab_ok rfl rfl ?_) | (refine Tr.cond rfl (fun _ => ?_) (fun _ => ?_) <;> try (rename_i h; cases h; done)) | refine Tr.block ?_ | refine Tr.skip ?_ | refine Tr.ret ⟨_, rfl, ?_⟩)
    exact ⟨o, rfl, hlen, hre⟩
theorem Circle_ok (n : Nat) (es : List (Nat × Nat)) (hn : n ≤ 64) (hl : es.length ≤ 4096) (hp : ∀ p, p ∈ es → p.1 < n ∧ p.2 < n) (cyc : Bool) (hc : cyc = true ↔ CycP n es) :
    Fn Tryz.prog Gw 35 [.tr (grT n es)] [] (· = bool cyc) := by
  refine Fn.of tab_ok Tryz.func35 rfl (by decide) (by simp [Tryz.f35]) rfl (fun κ v h => by cases h) Gw.below ?_
  repeat' (first | refine Tr.seq ?_ | refine Tr.region ?_ | refine Sq.ev tab_ok rfl rfl ?_ | refine Sq.nil ?_ | (refine Sq.guard rfl rfl (fun _ => ?_) (fun _ => ?_) <;> refine Sq.ev tab_ok rfl rfl ?_) | (refine Tr.cond rfl (fun _ => ?_) (fun _ => ?_) <;> try (rename_i h; cases h; done)) | refine Tr.block ?_ | refine Tr.skip ?_ | refine Tr.ret ⟨_, rfl, ?_⟩)
  refine Tr.loopS (fun a : Nat => [(.s 1, .ptr (.l 1) 0), (.l 1, .blk 41 [int n, .tr (.ls (es.map edT))]), (.s 3, int a)]) (fun a => n - a) (fun a => a ≤ n ∧ ∀ b, b < a → ¬ EdgeWay es b b)
    0 ⟨by omega, by intro b hb; omega⟩ (Sub.app (l := [_, _, _]) (H := []) ⟨rfl, rfl, rfl, trivial⟩ (fun κ v h => nomatch h)) ?_
  rintro a ⟨ha, hno⟩
  repeat' (first | refine Tr.seq ?_ | refine Tr.region ?_ | refine Sq.ev tab_ok rfl rfl ?_ | refine Sq.nil ?_ | (refine Sq.guard rfl rfl (fun _ => ?_) (fun _ => ?_) <;> refine Sq.ev tab_ok rfl rfl ?_) | (refine Tr.cond rfl (fun _ => ?_) (fun _ => ?_) <;> try (rename_i h; cases h; done)) | refine Tr.block ?_ | refine Tr.skip ?_ | refine Tr.ret ⟨_, rfl, ?_⟩)
  · rename_i h2
    have hlt : a < n := by have := of_decide_eq_true h2; omega
    refine Sq.call rfl (From_ok n es a hlt hn hl hp) ?_
    rintro _ ⟨o, rfl, hol, ho⟩
    obtain ⟨b, hb⟩ : ∃ b, o[a]? = some b := ⟨_, List.getElem?_eq_getElem (by omega)⟩
    have hbe : (o.map boolT)[((a : Nat) : Int).toNat]? = some (boolT b) := by simp [hb]
    refine Sq.ev tab_ok rfl rfl ?_
    refine Sq.index (x := boolT b) tab_ok rfl (by omega) (hbe) rfl ?_
    refine Sq.ev tab_ok rfl rfl ?_
    cases b
    · repeat' (first | refine Tr.seq ?_ | refine Tr.region ?_ | refine Sq.ev tab_ok rfl rfl ?_ | refine Sq.nil ?_ | (refine Sq.guard rfl rfl (fun _ => ?_) (fun _ => ?_) <;> refine Sq.ev tab_ok rfl rfl ?_) | (refine Tr.cond rfl (fun _ => ?_) (fun _ => ?_) <;> try (rename_i h; cases h; done)) | refine Tr.block ?_ | refine Tr.skip ?_ | refine Tr.ret ⟨_, rfl, ?_⟩)
      exact ⟨a + 1, ⟨by omega, fun b hb' => by
        rcases Nat.lt_succ_iff_lt_or_eq.1 hb' with h | rfl
        · exact hno b h
        · intro hr; rw [(ho b).2 hr] at hb; cases hb⟩, by omega, Sub.app (l := [_, _, _]) (H := []) ⟨rfl, rfl, congrArg some (wrapz (by omega) (by omega) (by omega)), trivial⟩ (fun κ v h => nomatch h)⟩
    · have : cyc = true := hc.2 ⟨a, hlt, (ho a).1 hb⟩
      subst this
      repeat' (first | refine Tr.seq ?_ | refine Tr.region ?_ | refine Sq.ev tab_ok rfl rfl ?_ | refine Sq.nil ?_ | (refine Sq.guard rfl rfl (fun _ => ?_) (fun _ => ?_) <;> refine Sq.ev tab_ok rfl rfl ?_) | (refine Tr.cond rfl (fun _ => ?_) (fun _ => ?_) <;> try (rename_i h; cases h; done)) | refine Tr.block ?_ | refine Tr.skip ?_ | refine Tr.ret ⟨_, rfl, ?_⟩)
      rfl
  · rename_i h2
    have hge : n ≤ a := by have := of_decide_eq_false h2; omega
    have : cyc = false := by
      rw [← Bool.not_eq_true]
      intro h
      obtain ⟨b, hb, hr⟩ := hc.1 h
      exact hno b (by omega) hr
    subst this
    refine Tr.exit ?_
    repeat' (first | refine Tr.seq ?_ | refine Tr.region ?_ | refine Sq.ev tab_ok rfl rfl ?_ | refine Sq.nil ?_ | (refine Sq.guard rfl rfl (fun _ => ?_) (fun _ => ?_) <;> refine Sq.ev tab_ok rfl rfl ?_) | (refine Tr.cond rfl (fun _ => ?_) (fun _ => ?_) <;> try (rename_i h; cases h; done)) | refine Tr.block ?_ | refine Tr.skip ?_ | refine Tr.ret ⟨_, rfl, ?_⟩)
    rfl
end Go.Lg.Tryz

set_option linter.unusedVariables false
set_option linter.unusedSimpArgs false
namespace Go.Lg
open Go Go.RowKit
section
variable {P : Program} {G : Env} {n : Nat} {tab : Tab} {m : Store}
/-! real, imag -/
def evReIm (n : Nat) (ops : List Oper) (o : Oper) (m : Store) : Option (Bool × Nat × Nat × Nat) := match o.op, o.dst, gOk m ops o.guard with
  | .call c, some d, true => match Nat.blt d n, c.callee, c.args.toList with
    | true, .builtin .real, [x] => match opV m x with
      | some (.tr (.sc (.complex .f64 a b))) => some (true, a, b, d)
      | _ => none
    | true, .builtin .imag, [x] => match opV m x with
      | some (.tr (.sc (.complex .f64 a b))) => some (false, a, b, d)
      | _ => none
    | _, _, _ => none
  | _, _, _ => none
theorem Sq.reim {ops l : List Oper} {o : Oper} {r : Bool} {x y : Nat} {d : Nat} {K : Store → Prop} (h : evReIm n ops o m = some (r, x, y, d)) (k : Sq P G n ops l ((.s d, .tr (.sc (.float .f64 (if r then x else y)))) :: m) K) : Sq P G n ops (o :: l) m K := by
  obtain ⟨dst, op', type, pos, after, guard⟩ := o
  unfold evReIm at h
  simp only at h
  split at h
  · rename_i c d' hgd
    split at h
    · rename_i ox hlt hcal hargs
      split at h
      · rename_i a b hx
        simp only [Option.some.injEq, Prod.mk.injEq] at h
        obtain ⟨rfl, rfl, rfl, rfl⟩ := h
        refine Sq.do hgd (fun Γ M Ow ac w hrr => ?_) k
        obtain ⟨q1, hq1⟩ := opV_ok hx hrr
        refine ⟨_, w, ?_, M, Ow, hrr.put (Nat.lt_of_succ_le (Nat.le_of_ble_eq_true hlt)) (.tr _ _ (.sc _ rfl))⟩
        obtain ⟨cal, args, argT⟩ := c
        simp only at hcal hargs
        subst hcal
        have : args = #[ox] := by apply Array.toList_inj.1; simpa using hargs
        subst this
        simp [execOp, resolve, invoke, builtin, run_real, (sc_eval (Γ := Γ) hq1).1]
      · cases h
    · rename_i ox hlt hcal hargs
      split at h
      · rename_i a b hx
        simp only [Option.some.injEq, Prod.mk.injEq] at h
        obtain ⟨rfl, rfl, rfl, rfl⟩ := h
        refine Sq.do hgd (fun Γ M Ow ac w hrr => ?_) k
        obtain ⟨q1, hq1⟩ := opV_ok hx hrr
        refine ⟨_, w, ?_, M, Ow, hrr.put (Nat.lt_of_succ_le (Nat.le_of_ble_eq_true hlt)) (.tr _ _ (.sc _ rfl))⟩
        obtain ⟨cal, args, argT⟩ := c
        simp only at hcal hargs
        subst hcal
        have : args = #[ox] := by apply Array.toList_inj.1; simpa using hargs
        subst this
        simp [execOp, resolve, invoke, builtin, run_imag, (sc_eval (Γ := Γ) hq1).1]
      · cases h
    · cases h
  · cases h
/-! whole numbers out of such -/
def evF2i (n : Nat) (ops : List Oper) (o : Oper) (m : Store) : Option (TypeId × TypeId × Nat × Nat) := match o.op, o.dst, gOk m ops o.guard with
  | .convert s t x, some d, true => match Nat.blt d n, opV m x with
    | true, some (.tr (.sc (.float .f64 b))) => some (s, t, b, d)
    | _, _ => none
  | _, _, _ => none
theorem Sq.f2i {ops l : List Oper} {o : Oper} {s t : TypeId} {b d : Nat} {v : Int} {K : Store → Prop} (h : evF2i n ops o m = some (s, t, b, d)) (hs : (P.underlying s).isSome = true) (ht : P.underlying t = some (.int .i64)) (hv : floatToIntVal .f64 b .i64 = some v)
    (k : Sq P G n ops l ((.s d, .tr (.sc (.int .i64 v))) :: m) K) : Sq P G n ops (o :: l) m K := by
  obtain ⟨dst, op', type, pos, after, guard⟩ := o
  unfold evF2i at h
  simp only at h
  split at h
  · rename_i s0 t0 ox d' hgd
    split at h
    · rename_i q hlt hx
      simp only [Option.some.injEq, Prod.mk.injEq] at h
      obtain ⟨rfl, rfl, rfl, rfl⟩ := h
      refine Sq.do hgd (fun Γ M Ow a w hrr => ?_) k
      obtain ⟨q1, hq1⟩ := opV_ok hx hrr
      refine ⟨_, w, ?_, M, Ow, hrr.put (Nat.lt_of_succ_le (Nat.le_of_ble_eq_true hlt)) (.tr _ _ (.sc _ rfl))⟩
      simp [execOp, (sc_eval (Γ := Γ) hq1).1, run_convert_float_int w s0 t0 .f64 .i64 _ _ hs ht hv]
    · cases h
  · cases h
/-! compared -/
def fcmpB (op : BinOp) (x y : Nat) : Option Bool := match op with
  | .eql => some (FloatKind.f64.format.order x y == some .eq)
  | .neq => some (FloatKind.f64.format.order x y != some .eq)
  | .lss => some (FloatKind.f64.format.order x y == some .lt)
  | .leq => some (FloatKind.f64.format.order x y == some .lt || FloatKind.f64.format.order x y == some .eq)
  | .gtr => some (FloatKind.f64.format.order x y == some .gt)
  | .geq => some (FloatKind.f64.format.order x y == some .gt || FloatKind.f64.format.order x y == some .eq)
  | _ => none
def evFcmp (n : Nat) (ops : List Oper) (o : Oper) (m : Store) : Option (BinOp × Nat × Nat × Nat) := match o.op, o.dst, gOk m ops o.guard with
  | .binOp op _ x y _, some d, true => match Nat.blt d n, opV m x, opV m y with
    | true, some (.tr (.sc (.float .f64 a))), some (.tr (.sc (.float .f64 b))) => some (op, a, b, d)
    | _, _, _ => none
  | _, _, _ => none
theorem Sq.fcmp {ops l : List Oper} {o : Oper} {op : BinOp} {x y d : Nat} {b : Bool} {K : Store → Prop} (h : evFcmp n ops o m = some (op, x, y, d)) (hb : fcmpB op x y = some b) (k : Sq P G n ops l ((.s d, .tr (.sc (.bool b))) :: m) K) : Sq P G n ops (o :: l) m K := by
  obtain ⟨dst, op', type, pos, after, guard⟩ := o
  unfold evFcmp at h
  simp only at h
  split at h
  · rename_i op0 ty ox oy ty' d' hgd
    split at h
    · rename_i a b hlt hx hy
      simp only [Option.some.injEq, Prod.mk.injEq] at h
      obtain ⟨rfl, rfl, rfl, rfl⟩ := h
      refine Sq.do hgd (fun Γ M Ow a w hrr => ?_) k
      obtain ⟨q1, hq1⟩ := opV_ok hx hrr
      obtain ⟨q2, hq2⟩ := opV_ok hy hrr
      refine ⟨_, w, ?_, M, Ow, hrr.put (Nat.lt_of_succ_le (Nat.le_of_ble_eq_true hlt)) (.tr _ _ (.sc _ rfl))⟩
      unfold fcmpB at hb
      split at hb <;> first
        | (cases hb; done)
        | (obtain rfl := Option.some.inj hb
           simp [execOp, (sc_eval (Γ := Γ) hq1).1, (sc_eval (Γ := Γ) hq2).1, eqGuard, binOp_float_cmp_eql, binOp_float_cmp_neq, binOp_float_cmp_lss, binOp_float_cmp_leq, binOp_float_cmp_gtr, binOp_float_cmp_geq])
    · cases h
  · cases h
/-! complex ones compared -/
def ccmpB (op : BinOp) (a b c d : Nat) : Option Bool := match op with
  | .eql => some ((FloatKind.f64.format.order a c == some .eq) && (FloatKind.f64.format.order b d == some .eq))
  | .neq => some !((FloatKind.f64.format.order a c == some .eq) && (FloatKind.f64.format.order b d == some .eq))
  | _ => none
def evCcmp (n : Nat) (ops : List Oper) (o : Oper) (m : Store) : Option (BinOp × (Nat × Nat) × (Nat × Nat) × Nat) := match o.op, o.dst, gOk m ops o.guard with
  | .binOp op _ x y _, some d, true => match Nat.blt d n, opV m x, opV m y with
    | true, some (.tr (.sc (.complex .f64 a b))), some (.tr (.sc (.complex .f64 a' b'))) => some (op, (a, b), (a', b'), d)
    | _, _, _ => none
  | _, _, _ => none
theorem Sq.ccmp {ops l : List Oper} {o : Oper} {op : BinOp} {x y : Nat × Nat} {d : Nat} {b : Bool} {K : Store → Prop} (h : evCcmp n ops o m = some (op, x, y, d)) (hb : ccmpB op x.1 x.2 y.1 y.2 = some b) (k : Sq P G n ops l ((.s d, .tr (.sc (.bool b))) :: m) K) : Sq P G n ops (o :: l) m K := by
  obtain ⟨dst, op', type, pos, after, guard⟩ := o
  unfold evCcmp at h
  simp only at h
  split at h
  · rename_i op0 ty ox oy ty' d' hgd
    split at h
    · rename_i a b a' b' hlt hx hy
      simp only [Option.some.injEq, Prod.mk.injEq] at h
      obtain ⟨rfl, rfl, rfl, rfl⟩ := h
      refine Sq.do hgd (fun Γ M Ow a w hrr => ?_) k
      obtain ⟨q1, hq1⟩ := opV_ok hx hrr
      obtain ⟨q2, hq2⟩ := opV_ok hy hrr
      refine ⟨_, w, ?_, M, Ow, hrr.put (Nat.lt_of_succ_le (Nat.le_of_ble_eq_true hlt)) (.tr _ _ (.sc _ rfl))⟩
      unfold ccmpB at hb
      split at hb <;> first
        | (cases hb; done)
        | (obtain rfl := Option.some.inj hb
           simp [execOp, (sc_eval (Γ := Γ) hq1).1, (sc_eval (Γ := Γ) hq2).1, eqGuard, run_eql_complex, run_neq_complex])
    · cases h
  · cases h
/-! a function without a body -/
def evExt (n : Nat) (ops : List Oper) (o : Oper) (m : Store) : Option (FuncId × Value × Nat) := match o.op, o.dst, gOk m ops o.guard with
  | .call ⟨.value (.func f), ⟨[x]⟩, _⟩, some d, true => match Nat.blt d n, opV m x with
    | true, some (.tr (.sc c)) => some (f, c, d)
    | _, _ => none
  | _, _, _ => none
theorem Sq.ext {ops l : List Oper} {o : Oper} {f : FuncId} {fn : Func} {e : Array Value → Sem Value} {c u : Value} {d : Nat} {K : Store → Prop} (h : evExt n ops o m = some (f, c, d)) (hf : P.funcs[f]? = some fn) (hname : (fn.name == "runtime.NumGoroutine") = false) (hb : fn.body.isNone = true)
    (hn : Extern.findNext fn = none) (he : Extern.find fn = some e) (hr : ∀ w, (e #[c]).run P w = .ok u w) (h1 : u.oneCell' = true) (k : Sq P G n ops l ((.s d, .tr (.sc u)) :: m) K) : Sq P G n ops (o :: l) m K := by
  obtain ⟨dst, op', type, pos, after, guard⟩ := o
  unfold evExt at h
  simp only at h
  split at h
  · rename_i f0 ox ats d' hgd
    split at h
    · rename_i c0 hlt hx
      simp only [Option.some.injEq, Prod.mk.injEq] at h
      obtain ⟨rfl, rfl, rfl⟩ := h
      refine Sq.do hgd (fun Γ M Ow a w hrr => ?_) k
      obtain ⟨q1, hq1⟩ := opV_ok hx hrr
      refine ⟨u, w, ?_, M, Ow, hrr.put (Nat.lt_of_succ_le (Nat.le_of_ble_eq_true hlt)) (.tr _ _ (.sc _ h1))⟩
      have hfe : a.eval (.func f0) = .func (.func f0) #[] #[] := rfl
      have hcall : (callFunc f0 #[c0]).run P w = .ok (.value u) w := by rw [run_callFunc_extern hf hname hb hn he, hr]; rfl
      simp [execOp, resolve, Deferred.ofValue, hfe, (sc_eval (Γ := Γ) hq1).1, invoke, hcall]
    · cases h
  · cases h
theorem Tr.condC {b : Bool} {x y : Code} {Q : Exit → Store → Prop} (h : Tr P G n (if b then x else y) m Q) : Tr P G n (.cond (.const (.bool b)) x y) m Q := by
  intro Γ hΓ a w hr
  cases b with
  | true => exact wpIn_cond rfl (h Γ hΓ a w hr)
  | false => exact wpIn_cond rfl (h Γ hΓ a w hr)
end
end Go.Lg

set_option linter.unusedVariables false
set_option linter.unusedSimpArgs false
namespace Go.Lg.Sem
open Go
def okF (v : Int) : Bool :=
  fcmpB .geq (floatOfInt .f64 v) 0 == some (decide (0 ≤ v)) && fcmpB .leq (floatOfInt .f64 v) 4697254411347427328 == some true &&
  (match FloatKind.f64.decode (floatOfInt .f64 v) with
    | .nan _ _ => false
    | d => FloatKind.f64.encode (d.integral .zero) == floatOfInt .f64 v) &&
  fcmpB .eql (floatOfInt .f64 v) (floatOfInt .f64 v) == some true && floatToIntVal .f64 (floatOfInt .f64 v) .i64 == some v
set_option maxRecDepth 100000 in
theorem okF_all : (List.range 2004).all (fun k => okF ((k : Int) - 1)) = true := by kernel_rfl
theorem okF_of {v : Int} (h1 : -1 ≤ v) (h2 : v ≤ 2002) : okF v = true := by
  have h := List.all_eq_true.1 okF_all (v + 1).toNat (List.mem_range.2 (by omega))
  have e : (((v + 1).toNat : Nat) : Int) - 1 = v := by omega
  rw [e] at h; exact h
/-- x is the whole number v. -/
structure OkX (x : Nat) (v : Int) : Prop where
  ge : fcmpB .geq x 0 = some (decide (0 ≤ v))
  le : fcmpB .leq x 4697254411347427328 = some true
  tr : ∀ (P : Program) (name : String) (w : World), (Extern.MathFloor.toIntegral name .zero #[.float .f64 x]).run P w = .ok (.float .f64 x) w
  eq : fcmpB .eql x x = some true
  int : floatToIntVal .f64 x .i64 = some v
theorem OkX.of {v : Int} (h1 : -1 ≤ v) (h2 : v ≤ 2002) : OkX (floatOfInt .f64 v) v := by
  have h := okF_of h1 h2
  unfold okF at h
  simp only [Bool.and_eq_true, beq_iff_eq] at h
  obtain ⟨⟨⟨⟨a, b⟩, c⟩, d⟩, e⟩ := h
  refine ⟨a, b, fun P name w => ?_, d, e⟩
  generalize floatOfInt .f64 v = x at c ⊢
  have e : Extern.MathFloor.toIntegral name .zero #[.float .f64 x] = (match FloatKind.f64.decode x with
    | .nan s t =>
      if FloatKind.f64.format.quiet t = t then pure (.float .f64 x) else do
      let kept ← choose (.extern "math.Floor,Ceil,Trunc,RoundToEven.signallingNaN kept" 2)
      pure (.float .f64 (if kept == 1 then x else FloatKind.f64.encode (.nan s (FloatKind.f64.format.quiet t))))
    | d => pure (.float .f64 (FloatKind.f64.encode (d.integral .zero)))) := rfl
  rw [e]
  generalize FloatKind.f64.decode x = dd at c ⊢
  cases dd with
  | nan s t => exact absurd c (by simp)
  | infinity s =>
    have c : (FloatKind.f64.encode ((Ieee.Datum.infinity s).integral .zero) == x) = true := c
    rw [beq_iff_eq] at c
    show (pure (Value.float .f64 (FloatKind.f64.encode ((Ieee.Datum.infinity s).integral .zero))) : Sem Value).run P w = _
    rw [c]; rfl
  | number s a b =>
    have c : (FloatKind.f64.encode ((Ieee.Datum.number s a b).integral .zero) == x) = true := c
    rw [beq_iff_eq] at c
    show (pure (Value.float .f64 (FloatKind.f64.encode ((Ieee.Datum.number s a b).integral .zero))) : Sem Value).run P w = _
    rw [c]; rfl
end Go.Lg.Sem

set_option linter.unusedVariables false
set_option linter.unusedSimpArgs false
namespace Go.Lg.Tryz
open Go Go.Proofs Go.RowKit Go.Lib Go.Lg.Sem
abbrev flt (x : Nat) : AV := .tr (.sc (.float .f64 x))
abbrev cpl (x y : Nat) : AV := .tr (.sc (.complex .f64 x y))
theorem Trunc_ok (x : Nat) (v : Int) (h : OkX x v) : Fn Tryz.prog Gw 122 [flt x] [] (· = flt x) := by
  refine Fn.of tab_ok Tryz.func122 rfl (by decide) (by simp [Tryz.f122]) rfl (fun κ v h => by cases h) Gw.below ?_
  repeat' (first | refine Tr.seq ?_ | refine Tr.region ?_ | refine Sq.ev tab_ok rfl rfl ?_ | refine Sq.nil ?_ | (refine Sq.guard rfl rfl (fun _ => ?_) (fun _ => ?_) <;> refine Sq.ev tab_ok rfl rfl ?_) | (refine Tr.cond rfl (fun _ => ?_) (fun _ => ?_) <;> try (rename_i h; cases h; done)) | refine Tr.block ?_ | refine Tr.skip ?_ | refine Tr.ret ⟨_, rfl, ?_⟩)
  refine Tr.condC ?_
  show Tr _ _ _ (.seq _ _) _ _
  repeat' (first | refine Tr.seq ?_ | refine Tr.region ?_ | refine Sq.ev tab_ok rfl rfl ?_ | refine Sq.nil ?_ | (refine Sq.guard rfl rfl (fun _ => ?_) (fun _ => ?_) <;> refine Sq.ev tab_ok rfl rfl ?_) | (refine Tr.cond rfl (fun _ => ?_) (fun _ => ?_) <;> try (rename_i h; cases h; done)) | refine Tr.block ?_ | refine Tr.skip ?_ | refine Tr.ret ⟨_, rfl, ?_⟩)
  refine Sq.ext rfl Tryz.func135 (by kernel_rfl) (by kernel_rfl) (by kernel_rfl) (show _ = some (Extern.MathFloor.toIntegral "math.archTrunc" .zero) by kernel_rfl) (fun w => h.tr _ _ w) rfl ?_
  repeat' (first | refine Tr.seq ?_ | refine Tr.region ?_ | refine Sq.ev tab_ok rfl rfl ?_ | refine Sq.nil ?_ | (refine Sq.guard rfl rfl (fun _ => ?_) (fun _ => ?_) <;> refine Sq.ev tab_ok rfl rfl ?_) | (refine Tr.cond rfl (fun _ => ?_) (fun _ => ?_) <;> try (rename_i h; cases h; done)) | refine Tr.block ?_ | refine Tr.skip ?_ | refine Tr.ret ⟨_, rfl, ?_⟩)
  rfl
theorem whole_ok (x : Nat) (v : Int) (h : OkX x v) : Fn Tryz.prog Gw 96 [flt x, .tr (.sc (.float .f64 0))] [] (· = bool (decide (0 ≤ v))) := by
  have hT := Trunc_ok x v h
  refine Fn.of tab_ok Tryz.func96 rfl (by decide) (by simp [Tryz.f96]) rfl (fun κ v h => by cases h) Gw.below ?_
  repeat' (first | refine Tr.seq ?_ | refine Tr.region ?_ | refine Sq.ev tab_ok rfl rfl ?_ | refine Sq.nil ?_ | (refine Sq.guard rfl rfl (fun _ => ?_) (fun _ => ?_) <;> refine Sq.ev tab_ok rfl rfl ?_) | (refine Tr.cond rfl (fun _ => ?_) (fun _ => ?_) <;> try (rename_i h; cases h; done)) | refine Tr.block ?_ | refine Tr.skip ?_ | refine Tr.ret ⟨_, rfl, ?_⟩)
  refine Sq.fcmp rfl h.ge ?_
  refine Sq.ev tab_ok rfl rfl ?_
  by_cases hv : 0 ≤ v
  · rw [decide_eq_true hv]
    repeat' (first | refine Tr.seq ?_ | refine Tr.region ?_ | refine Sq.ev tab_ok rfl rfl ?_ | refine Sq.nil ?_ | (refine Sq.guard rfl rfl (fun _ => ?_) (fun _ => ?_) <;> refine Sq.ev tab_ok rfl rfl ?_) | (refine Tr.cond rfl (fun _ => ?_) (fun _ => ?_) <;> try (rename_i h; cases h; done)) | refine Tr.block ?_ | refine Tr.skip ?_ | refine Tr.ret ⟨_, rfl, ?_⟩)
    refine Sq.fcmp rfl h.le ?_
    repeat' (first | refine Tr.seq ?_ | refine Tr.region ?_ | refine Sq.ev tab_ok rfl rfl ?_ | refine Sq.nil ?_ | (refine Sq.guard rfl rfl (fun _ => ?_) (fun _ => ?_) <;> refine Sq.ev tab_ok rfl rfl ?_) | (refine Tr.cond rfl (fun _ => ?_) (fun _ => ?_) <;> try (rename_i h; cases h; done)) | refine Tr.block ?_ | refine Tr.skip ?_ | refine Tr.ret ⟨_, rfl, ?_⟩)
    refine Sq.callv rfl (hT) ?_
    refine Sq.fcmp rfl h.eq ?_
    repeat' (first | refine Tr.seq ?_ | refine Tr.region ?_ | refine Sq.ev tab_ok rfl rfl ?_ | refine Sq.nil ?_ | (refine Sq.guard rfl rfl (fun _ => ?_) (fun _ => ?_) <;> refine Sq.ev tab_ok rfl rfl ?_) | (refine Tr.cond rfl (fun _ => ?_) (fun _ => ?_) <;> try (rename_i h; cases h; done)) | refine Tr.block ?_ | refine Tr.skip ?_ | refine Tr.ret ⟨_, rfl, ?_⟩)
    rfl
  · rw [decide_eq_false hv]
    repeat' (first | refine Tr.seq ?_ | refine Tr.region ?_ | refine Sq.ev tab_ok rfl rfl ?_ | refine Sq.nil ?_ | (refine Sq.guard rfl rfl (fun _ => ?_) (fun _ => ?_) <;> refine Sq.ev tab_ok rfl rfl ?_) | (refine Tr.cond rfl (fun _ => ?_) (fun _ => ?_) <;> try (rename_i h; cases h; done)) | refine Tr.block ?_ | refine Tr.skip ?_ | refine Tr.ret ⟨_, rfl, ?_⟩)
    rfl
theorem place_ok (x y : Nat) (v f : Int) (h1 : OkX x v) (h2 : OkX y f) : Fn Tryz.prog Gw 73 [cpl x y] [] (· = bool (decide (0 ≤ v) && decide (0 ≤ f))) := by
  have hv := whole_ok x v h1
  have hf := whole_ok y f h2
  refine Fn.of tab_ok Tryz.func73 rfl (by decide) (by simp [Tryz.f73]) rfl (fun κ v h => by cases h) Gw.below ?_
  repeat' (first | refine Tr.seq ?_ | refine Tr.region ?_ | refine Sq.ev tab_ok rfl rfl ?_ | refine Sq.nil ?_ | (refine Sq.guard rfl rfl (fun _ => ?_) (fun _ => ?_) <;> refine Sq.ev tab_ok rfl rfl ?_) | (refine Tr.cond rfl (fun _ => ?_) (fun _ => ?_) <;> try (rename_i h; cases h; done)) | refine Tr.block ?_ | refine Tr.skip ?_ | refine Tr.ret ⟨_, rfl, ?_⟩)
  refine Sq.reim (r := true) rfl ?_
  refine Sq.callv rfl (hv) ?_
  refine Sq.ev tab_ok rfl rfl ?_
  cases decide (0 ≤ v)
  · repeat' (first | refine Tr.seq ?_ | refine Tr.region ?_ | refine Sq.ev tab_ok rfl rfl ?_ | refine Sq.nil ?_ | (refine Sq.guard rfl rfl (fun _ => ?_) (fun _ => ?_) <;> refine Sq.ev tab_ok rfl rfl ?_) | (refine Tr.cond rfl (fun _ => ?_) (fun _ => ?_) <;> try (rename_i h; cases h; done)) | refine Tr.block ?_ | refine Tr.skip ?_ | refine Tr.ret ⟨_, rfl, ?_⟩)
    rfl
  · repeat' (first | refine Tr.seq ?_ | refine Tr.region ?_ | refine Sq.ev tab_ok rfl rfl ?_ | refine Sq.nil ?_ | (refine Sq.guard rfl rfl (fun _ => ?_) (fun _ => ?_) <;> refine Sq.ev tab_ok rfl rfl ?_) | (refine Tr.cond rfl (fun _ => ?_) (fun _ => ?_) <;> try (rename_i h; cases h; done)) | refine Tr.block ?_ | refine Tr.skip ?_ | refine Tr.ret ⟨_, rfl, ?_⟩)
    refine Sq.reim (r := false) rfl ?_
    refine Sq.callv rfl (hf) ?_
    repeat' (first | refine Tr.seq ?_ | refine Tr.region ?_ | refine Sq.ev tab_ok rfl rfl ?_ | refine Sq.nil ?_ | (refine Sq.guard rfl rfl (fun _ => ?_) (fun _ => ?_) <;> refine Sq.ev tab_ok rfl rfl ?_) | (refine Tr.cond rfl (fun _ => ?_) (fun _ => ?_) <;> try (rename_i h; cases h; done)) | refine Tr.block ?_ | refine Tr.skip ?_ | refine Tr.ret ⟨_, rfl, ?_⟩)
    rfl
theorem Parts_ok (x y : Nat) (v f : Int) (h1 : OkX x v) (h2 : OkX y f) : Fn Tryz.prog Gw 46 [cpl x y] [] (· = if 0 ≤ v ∧ 0 ≤ f then .tup [int v, int f, int 0] else .tup [int 0, int 0, int 12]) := by
  have hp := place_ok x y v f h1 h2
  refine Fn.of tab_ok Tryz.func46 rfl (by decide) (by simp [Tryz.f46]) rfl (fun κ v h => by cases h) Gw.below ?_
  repeat' (first | refine Tr.seq ?_ | refine Tr.region ?_ | refine Sq.ev tab_ok rfl rfl ?_ | refine Sq.nil ?_ | (refine Sq.guard rfl rfl (fun _ => ?_) (fun _ => ?_) <;> refine Sq.ev tab_ok rfl rfl ?_) | (refine Tr.cond rfl (fun _ => ?_) (fun _ => ?_) <;> try (rename_i h; cases h; done)) | refine Tr.block ?_ | refine Tr.skip ?_ | refine Tr.ret ⟨_, rfl, ?_⟩)
  by_cases h : 0 ≤ v ∧ 0 ≤ f
  · rw [if_pos h]
    rw [decide_eq_true h.1, decide_eq_true h.2] at hp
    refine Sq.callv rfl (hp) ?_
    repeat' (first | refine Tr.seq ?_ | refine Tr.region ?_ | refine Sq.ev tab_ok rfl rfl ?_ | refine Sq.nil ?_ | (refine Sq.guard rfl rfl (fun _ => ?_) (fun _ => ?_) <;> refine Sq.ev tab_ok rfl rfl ?_) | (refine Tr.cond rfl (fun _ => ?_) (fun _ => ?_) <;> try (rename_i h; cases h; done)) | refine Tr.block ?_ | refine Tr.skip ?_ | refine Tr.ret ⟨_, rfl, ?_⟩)
    refine Sq.reim (r := true) rfl ?_
    refine Sq.f2i rfl (by rw [Tryz.underlying110]; rfl) Tryz.underlying3 h1.int ?_
    repeat' (first | refine Tr.seq ?_ | refine Tr.region ?_ | refine Sq.ev tab_ok rfl rfl ?_ | refine Sq.nil ?_ | (refine Sq.guard rfl rfl (fun _ => ?_) (fun _ => ?_) <;> refine Sq.ev tab_ok rfl rfl ?_) | (refine Tr.cond rfl (fun _ => ?_) (fun _ => ?_) <;> try (rename_i h; cases h; done)) | refine Tr.block ?_ | refine Tr.skip ?_ | refine Tr.ret ⟨_, rfl, ?_⟩)
    refine Sq.reim (r := false) rfl ?_
    refine Sq.f2i rfl (by rw [Tryz.underlying110]; rfl) Tryz.underlying3 h2.int ?_
    repeat' (first | refine Tr.seq ?_ | refine Tr.region ?_ | refine Sq.ev tab_ok rfl rfl ?_ | refine Sq.nil ?_ | (refine Sq.guard rfl rfl (fun _ => ?_) (fun _ => ?_) <;> refine Sq.ev tab_ok rfl rfl ?_) | (refine Tr.cond rfl (fun _ => ?_) (fun _ => ?_) <;> try (rename_i h; cases h; done)) | refine Tr.block ?_ | refine Tr.skip ?_ | refine Tr.ret ⟨_, rfl, ?_⟩)
    rfl
  · rw [if_neg h]
    have e : (decide (0 ≤ v) && decide (0 ≤ f)) = false := by
      rw [← Bool.not_eq_true, Bool.and_eq_true, decide_eq_true_eq, decide_eq_true_eq]; exact h
    rw [e] at hp
    refine Sq.callv rfl (hp) ?_
    repeat' (first | refine Tr.seq ?_ | refine Tr.region ?_ | refine Sq.ev tab_ok rfl rfl ?_ | refine Sq.nil ?_ | (refine Sq.guard rfl rfl (fun _ => ?_) (fun _ => ?_) <;> refine Sq.ev tab_ok rfl rfl ?_) | (refine Tr.cond rfl (fun _ => ?_) (fun _ => ?_) <;> try (rename_i h; cases h; done)) | refine Tr.block ?_ | refine Tr.skip ?_ | refine Tr.ret ⟨_, rfl, ?_⟩)
    rfl
def standsB (c : Ctl) (i v f : Int) : Bool := decide (0 ≤ i) && decide (0 ≤ f) && match relAt c i v with
  | some r => decide (-1 ≤ f - 2 * r.level) && decide (f - 2 * r.level ≤ 1)
  | none => false
theorem stands_none {c : Ctl} {i v f : Int} (h : relAt c i v = none) : standsB c i v f = false := by
  unfold standsB; rw [h]; simp
theorem Stands_ok {c : Ctl} (hr : ∀ s, s ∈ c → ∀ r, r ∈ s.rels → 0 ≤ r.level ∧ r.level ≤ 1000) (i : Int) (x y : Nat) (v f : Int) (h1 : OkX x v) (h2 : OkX y f) (hf : f ≤ 100000) :
    Fn Tryz.prog Gw 25 [.tr (ctlT c), int i, cpl x y] [] (· = bool (standsB c i v f)) := by
  have hp := Parts_ok x y v f h1 h2
  refine Fn.of tab_ok Tryz.func25 rfl (by decide) (by simp [Tryz.f25]) rfl (fun κ v h => by cases h) Gw.below ?_
  repeat' (first | refine Tr.seq ?_ | refine Tr.region ?_ | refine Sq.ev tab_ok rfl rfl ?_ | refine Sq.nil ?_ | (refine Sq.guard rfl rfl (fun _ => ?_) (fun _ => ?_) <;> refine Sq.ev tab_ok rfl rfl ?_) | (refine Tr.cond rfl (fun _ => ?_) (fun _ => ?_) <;> try (rename_i h; cases h; done)) | refine Tr.block ?_ | refine Tr.skip ?_ | refine Tr.ret ⟨_, rfl, ?_⟩)
  by_cases h : 0 ≤ v ∧ 0 ≤ f
  case neg =>
    rw [if_neg h] at hp
    refine Sq.callv rfl (hp) ?_
    repeat' (first | refine Tr.seq ?_ | refine Tr.region ?_ | refine Sq.ev tab_ok rfl rfl ?_ | refine Sq.nil ?_ | (refine Sq.guard rfl rfl (fun _ => ?_) (fun _ => ?_) <;> refine Sq.ev tab_ok rfl rfl ?_) | (refine Tr.cond rfl (fun _ => ?_) (fun _ => ?_) <;> try (rename_i h; cases h; done)) | refine Tr.block ?_ | refine Tr.skip ?_ | refine Tr.ret ⟨_, rfl, ?_⟩)
    have : standsB c i v f = false := by
      unfold standsB
      by_cases hf : 0 ≤ f
      · rw [relAt_neg (by omega)]; simp
      · rw [decide_eq_false hf]; simp
    rw [this]
  rw [if_pos h] at hp
  refine Sq.callv rfl (hp) ?_
  repeat' (first | refine Tr.seq ?_ | refine Tr.region ?_ | refine Sq.ev tab_ok rfl rfl ?_ | refine Sq.nil ?_ | (refine Sq.guard rfl rfl (fun _ => ?_) (fun _ => ?_) <;> refine Sq.ev tab_ok rfl rfl ?_) | (refine Tr.cond rfl (fun _ => ?_) (fun _ => ?_) <;> try (rename_i h; cases h; done)) | refine Tr.block ?_ | refine Tr.skip ?_ | refine Tr.ret ⟨_, rfl, ?_⟩)
  · rename_i h3 _
    have h3 := of_decide_eq_true h3
    have : standsB c i v f = false := by unfold standsB; rw [decide_eq_false (by omega)]; rfl
    rw [this]
  · rename_i h3 h4 _
    have h3 := of_decide_eq_false h3
    have h4 : decide (i ≥ ((c.map svcT).length : Int)) = true := h4
    rw [List.length_map] at h4
    have h4 := of_decide_eq_true h4
    rw [stands_none (by unfold relAt; rw [List.getElem?_eq_none (by omega)])]
  rename_i h3 h4
  have h3 := of_decide_eq_false h3
  have h4 : decide (i ≥ ((c.map svcT).length : Int)) = false := h4
  rw [List.length_map] at h4
  have h4 := of_decide_eq_false h4
  obtain ⟨s, hs⟩ : ∃ s, c[i.toNat]? = some s := ⟨_, List.getElem?_eq_getElem (by omega)⟩
  have hsm : s ∈ c := List.mem_of_getElem? hs
  have hse : (c.map svcT)[i.toNat]? = some (svcT s) := by simp [hs]
  refine Sq.index (x := svcT s) tab_ok rfl (by omega) (hse) rfl ?_
  repeat' (first | refine Tr.seq ?_ | refine Tr.region ?_ | refine Sq.ev tab_ok rfl rfl ?_ | refine Sq.nil ?_ | (refine Sq.guard rfl rfl (fun _ => ?_) (fun _ => ?_) <;> refine Sq.ev tab_ok rfl rfl ?_) | (refine Tr.cond rfl (fun _ => ?_) (fun _ => ?_) <;> try (rename_i h; cases h; done)) | refine Tr.block ?_ | refine Tr.skip ?_ | refine Tr.ret ⟨_, rfl, ?_⟩)
  · rename_i h5
    have h5 : decide (v ≥ ((s.rels.map rlsT).length : Int)) = true := h5
    rw [List.length_map] at h5
    have h5 := of_decide_eq_true h5
    rw [stands_none (by rw [relAt_pos hs (by omega)]; exact List.getElem?_eq_none (by omega))]
  rename_i h5
  have h5 : decide (v ≥ ((s.rels.map rlsT).length : Int)) = false := h5
  rw [List.length_map] at h5
  have h5 := of_decide_eq_false h5
  obtain ⟨r, hrr⟩ : ∃ r, s.rels[v.toNat]? = some r := ⟨_, List.getElem?_eq_getElem (by omega)⟩
  have hre : (s.rels.map rlsT)[v.toNat]? = some (rlsT r) := by simp [hrr]
  obtain ⟨l0, l1⟩ := hr s hsm r (List.mem_of_getElem? hrr)
  have hB : standsB c i v f = (decide (-1 ≤ f - 2 * r.level) && decide (f - 2 * r.level ≤ 1)) := by
    unfold standsB; rw [relAt_pos hs (by omega), hrr, decide_eq_true (by omega), decide_eq_true h.2]; rfl
  rw [hB]
  refine Sq.index (x := svcT s) tab_ok rfl (by omega) (hse) rfl ?_
  repeat' (first | refine Tr.seq ?_ | refine Tr.region ?_ | refine Sq.ev tab_ok rfl rfl ?_ | refine Sq.nil ?_ | (refine Sq.guard rfl rfl (fun _ => ?_) (fun _ => ?_) <;> refine Sq.ev tab_ok rfl rfl ?_) | (refine Tr.cond rfl (fun _ => ?_) (fun _ => ?_) <;> try (rename_i h; cases h; done)) | refine Tr.block ?_ | refine Tr.skip ?_ | refine Tr.ret ⟨_, rfl, ?_⟩)
  refine Sq.index (x := rlsT r) tab_ok rfl (by omega) (hre) rfl ?_
  repeat' (first | refine Tr.seq ?_ | refine Tr.region ?_ | refine Sq.ev tab_ok rfl rfl ?_ | refine Sq.nil ?_ | (refine Sq.guard rfl rfl (fun _ => ?_) (fun _ => ?_) <;> refine Sq.ev tab_ok rfl rfl ?_) | (refine Tr.cond rfl (fun _ => ?_) (fun _ => ?_) <;> try (rename_i h; cases h; done)) | refine Tr.block ?_ | refine Tr.skip ?_ | refine Tr.ret ⟨_, rfl, ?_⟩)
  all_goals
    have hw : IntKind.i64.wrap (f - IntKind.i64.wrap (2 * r.level)) = f - 2 * r.level := by
      rw [Go.IntWalk.i64_in (2 * r.level) ⟨by omega, by omega⟩, Go.IntWalk.i64_in _ ⟨by omega, by omega⟩]
  · rename_i h6
    rw [hw] at h6 ⊢
    have h6 := of_decide_eq_true h6
    rw [decide_eq_true (show -1 ≤ f - 2 * r.level by omega)]; rfl
  · rename_i h6
    rw [hw] at h6
    have h6 := of_decide_eq_false h6
    rw [decide_eq_false (show ¬ -1 ≤ f - 2 * r.level by omega)]; rfl
/-! Good -/
structure Pl where
  x : Nat
  y : Nat
  v : Int
  f : Int
def Pl.ok (p : Pl) : Prop := OkX p.x p.v ∧ OkX p.y p.f ∧ p.f ≤ 100000
abbrev plT (p : Pl) : T := .sc (.complex .f64 p.x p.y)
def goodAt (c : Ctl) (l : List Pl) (i : Nat) : Bool := match l[i]? with
  | some p => standsB c i p.v p.f && (List.range i).all fun j => match l[j]? with
    | some q => fitsB c i p.v j q.v
    | none => true
  | none => true
def goodB (c : Ctl) (l : List Pl) : Bool := decide (l.length = c.length) && (List.range l.length).all (goodAt c l)
theorem Good_ok {c : Ctl} (h : Ctl.ok c) (hr : ∀ s, s ∈ c → ∀ r, r ∈ s.rels → 0 ≤ r.level ∧ r.level ≤ 1000) (hc : c.length ≤ 1000000) (l : List Pl) (hl : ∀ p, p ∈ l → p.ok) :
    Fn Tryz.prog Gw 26 [.tr (ctlT c), .tr (.ls (l.map plT))] [] (· = bool (goodB c l)) := by
  by_cases hlc : l.length = c.length
  case neg =>
    have : goodB c l = false := by unfold goodB; rw [decide_eq_false hlc]; rfl
    rw [this]
    refine Fn.of tab_ok Tryz.func26 rfl (by decide) (by simp [Tryz.f26]) rfl (fun κ v h => by cases h) Gw.below ?_
    repeat' (first | refine Tr.seq ?_ | refine Tr.region ?_ | refine Sq.ev tab_ok rfl rfl ?_ | refine Sq.nil ?_ | (refine Sq.guard rfl rfl (fun _ => ?_) (fun _ => ?_) <;> refine Sq.ev tab_ok rfl rfl ?_) | (refine Tr.cond rfl (fun _ => ?_) (fun _ => ?_) <;> try (rename_i h; cases h; done)) | refine Tr.block ?_ | refine Tr.skip ?_ | refine Tr.ret ⟨_, rfl, ?_⟩)
    · rfl
    · rename_i h; exfalso
      have h : (((l.map plT).length : Int) != ((c.map svcT).length : Int)) = false := h
      rw [List.length_map, List.length_map] at h
      simp at h; omega
  have hG : goodB c l = (List.range l.length).all (goodAt c l) := by unfold goodB; rw [decide_eq_true hlc]; rfl
  refine Fn.of tab_ok Tryz.func26 rfl (by decide) (by simp [Tryz.f26]) rfl (fun κ v h => by cases h) Gw.below ?_
  repeat' (first | refine Tr.seq ?_ | refine Tr.region ?_ | refine Sq.ev tab_ok rfl rfl ?_ | refine Sq.nil ?_ | (refine Sq.guard rfl rfl (fun _ => ?_) (fun _ => ?_) <;> refine Sq.ev tab_ok rfl rfl ?_) | (refine Tr.cond rfl (fun _ => ?_) (fun _ => ?_) <;> try (rename_i h; cases h; done)) | refine Tr.block ?_ | refine Tr.skip ?_ | refine Tr.ret ⟨_, rfl, ?_⟩)
  · rename_i h; exfalso
    have h : (((l.map plT).length : Int) != ((c.map svcT).length : Int)) = true := h
    rw [List.length_map, List.length_map] at h
    simp at h; omega
  refine Tr.loopS (fun i : Nat => [(.s 1, .tr (.ls (l.map plT))), (.s 2, .ptr (.l 2) 0), (.l 2, .blk 24 [.tr (.ls (c.map svcT))]), (.s 15, .tr (.ls (l.map plT))), (.s 16, int (l.map plT).length), (.s 17, int i)]) (fun i => l.length - i)
    (fun i => i ≤ l.length ∧ (List.range i).all (goodAt c l) = true) 0 ⟨by omega, rfl⟩ (Sub.app (l := [_, _, _, _, _, _]) (H := []) ⟨rfl, rfl, rfl, rfl, rfl, rfl, trivial⟩ (fun κ v h => nomatch h)) ?_
  rintro i ⟨hi, hp⟩
  repeat' (first | refine Tr.seq ?_ | refine Tr.region ?_ | refine Sq.ev tab_ok rfl rfl ?_ | refine Sq.nil ?_ | (refine Sq.guard rfl rfl (fun _ => ?_) (fun _ => ?_) <;> refine Sq.ev tab_ok rfl rfl ?_) | (refine Tr.cond rfl (fun _ => ?_) (fun _ => ?_) <;> try (rename_i h; cases h; done)) | refine Tr.block ?_ | refine Tr.skip ?_ | refine Tr.ret ⟨_, rfl, ?_⟩)
  · rename_i h2
    have hlt : i < l.length := by simp only [List.length_map, decide_eq_true_eq] at h2; omega
    obtain ⟨p, hpi⟩ : ∃ p, l[i]? = some p := ⟨_, List.getElem?_eq_getElem hlt⟩
    have hpe : (l.map plT)[((i : Nat) : Int).toNat]? = some (plT p) := by simp [hpi]
    obtain ⟨px, py, pf⟩ := hl p (List.mem_of_getElem? hpi)
    have hS := Stands_ok hr (i : Int) p.x p.y p.v p.f px py pf
    have hA : goodAt c l i = (standsB c i p.v p.f && (List.range i).all fun j => match l[j]? with | some q => fitsB c i p.v j q.v | none => true) := by unfold goodAt; rw [hpi]
    have bad : goodAt c l i = false → goodB c l = false := fun hb => by
      rw [hG, ← Bool.not_eq_true, List.all_eq_true]
      intro hh
      rw [hh i (List.mem_range.2 hlt)] at hb; cases hb
    refine Sq.index (x := plT p) tab_ok rfl (by omega) (hpe) rfl ?_
    repeat' (first | refine Tr.seq ?_ | refine Tr.region ?_ | refine Sq.ev tab_ok rfl rfl ?_ | refine Sq.nil ?_ | (refine Sq.guard rfl rfl (fun _ => ?_) (fun _ => ?_) <;> refine Sq.ev tab_ok rfl rfl ?_) | (refine Tr.cond rfl (fun _ => ?_) (fun _ => ?_) <;> try (rename_i h; cases h; done)) | refine Tr.block ?_ | refine Tr.skip ?_ | refine Tr.ret ⟨_, rfl, ?_⟩)
    cases hst : standsB c i p.v p.f
    · rw [hst] at hS hA
      refine Sq.callv rfl (hS) ?_
      repeat' (first | refine Tr.seq ?_ | refine Tr.region ?_ | refine Sq.ev tab_ok rfl rfl ?_ | refine Sq.nil ?_ | (refine Sq.guard rfl rfl (fun _ => ?_) (fun _ => ?_) <;> refine Sq.ev tab_ok rfl rfl ?_) | (refine Tr.cond rfl (fun _ => ?_) (fun _ => ?_) <;> try (rename_i h; cases h; done)) | refine Tr.block ?_ | refine Tr.skip ?_ | refine Tr.ret ⟨_, rfl, ?_⟩)
      rw [bad (by rw [hA]; rfl)]
    rw [hst] at hS hA
    rw [Bool.true_and] at hA
    refine Sq.callv rfl (hS) ?_
    repeat' (first | refine Tr.seq ?_ | refine Tr.region ?_ | refine Sq.ev tab_ok rfl rfl ?_ | refine Sq.nil ?_ | (refine Sq.guard rfl rfl (fun _ => ?_) (fun _ => ?_) <;> refine Sq.ev tab_ok rfl rfl ?_) | (refine Tr.cond rfl (fun _ => ?_) (fun _ => ?_) <;> try (rename_i h; cases h; done)) | refine Tr.block ?_ | refine Tr.skip ?_ | refine Tr.ret ⟨_, rfl, ?_⟩)
    refine Sq.part tab_ok rfl (fun x hx => by obtain ⟨a, _, rfl⟩ := List.mem_map.1 hx; rfl) (by simp [Bd.lo]) (by simp [Bd.lo, Bd.hi]) (by simp [Bd.hi]; omega) ?_
    refine Sq.re (v' := .tr (.ls ((l.take i).map plT))) (by simp [Bd.lo, Bd.hi, List.map_take]) ?_
    repeat' (first | refine Tr.seq ?_ | refine Tr.region ?_ | refine Sq.ev tab_ok rfl rfl ?_ | refine Sq.nil ?_ | (refine Sq.guard rfl rfl (fun _ => ?_) (fun _ => ?_) <;> refine Sq.ev tab_ok rfl rfl ?_) | (refine Tr.cond rfl (fun _ => ?_) (fun _ => ?_) <;> try (rename_i h; cases h; done)) | refine Tr.block ?_ | refine Tr.skip ?_ | refine Tr.ret ⟨_, rfl, ?_⟩)
    have hti : (l.take i).length = i := by rw [List.length_take]; omega
    have hat : ∀ j, j < i → (l.take i)[j]? = l[j]? := fun j hj => by rw [List.getElem?_take, if_pos hj]
    refine Tr.loopS (fun j : Nat => [(.s 1, .tr (.ls (l.map plT))), (.s 2, .ptr (.l 2) 0), (.l 2, .blk 24 [.tr (.ls (c.map svcT))]), (.s 15, .tr (.ls (l.map plT))), (.s 16, int (l.map plT).length), (.s 17, int i), (.s 5, int i), (.s 6, .tr (plT p)), (.s 29, .tr (.ls ((l.take i).map plT))), (.s 30, int ((l.take i).map plT).length), (.s 31, int j)]) (fun j => i - j)
      (fun j => j ≤ i ∧ (List.range j).all (fun j => match l[j]? with | some q => fitsB c i p.v j q.v | none => true) = true) 0 ⟨by omega, rfl⟩ (Sub.app (l := [_, _, _, _, _, _, _, _, _, _, _]) (H := []) ⟨rfl, rfl, rfl, rfl, rfl, rfl, rfl, rfl, rfl, rfl, rfl, trivial⟩ (fun κ v h => nomatch h)) ?_
    rintro j ⟨hj, hq⟩
    repeat' (first | refine Tr.seq ?_ | refine Tr.region ?_ | refine Sq.ev tab_ok rfl rfl ?_ | refine Sq.nil ?_ | (refine Sq.guard rfl rfl (fun _ => ?_) (fun _ => ?_) <;> refine Sq.ev tab_ok rfl rfl ?_) | (refine Tr.cond rfl (fun _ => ?_) (fun _ => ?_) <;> try (rename_i h; cases h; done)) | refine Tr.block ?_ | refine Tr.skip ?_ | refine Tr.ret ⟨_, rfl, ?_⟩)
    · rename_i h3
      have h3 : decide ((j : Int) < (((l.take i).map plT).length : Int)) = true := h3
      rw [List.length_map, hti] at h3
      have h3 := of_decide_eq_true h3
      obtain ⟨q, hqj⟩ : ∃ q, l[j]? = some q := ⟨_, List.getElem?_eq_getElem (by omega)⟩
      have hqe : ((l.take i).map plT)[((j : Nat) : Int).toNat]? = some (plT q) := by rw [Int.toNat_natCast, List.getElem?_map, hat j (by omega), hqj]; rfl
      obtain ⟨qx, qy, qf⟩ := hl q (List.mem_of_getElem? hqj)
      have hF := Fits_ok h (i : Int) p.v (j : Int) q.v
      refine Sq.index (x := plT q) tab_ok rfl (by omega) (hqe) rfl ?_
      repeat' (first | refine Tr.seq ?_ | refine Tr.region ?_ | refine Sq.ev tab_ok rfl rfl ?_ | refine Sq.nil ?_ | (refine Sq.guard rfl rfl (fun _ => ?_) (fun _ => ?_) <;> refine Sq.ev tab_ok rfl rfl ?_) | (refine Tr.cond rfl (fun _ => ?_) (fun _ => ?_) <;> try (rename_i h; cases h; done)) | refine Tr.block ?_ | refine Tr.skip ?_ | refine Tr.ret ⟨_, rfl, ?_⟩)
      refine Sq.reim (r := true) rfl ?_
      refine Sq.f2i rfl (by rw [Tryz.underlying110]; rfl) Tryz.underlying3 px.int ?_
      repeat' (first | refine Tr.seq ?_ | refine Tr.region ?_ | refine Sq.ev tab_ok rfl rfl ?_ | refine Sq.nil ?_ | (refine Sq.guard rfl rfl (fun _ => ?_) (fun _ => ?_) <;> refine Sq.ev tab_ok rfl rfl ?_) | (refine Tr.cond rfl (fun _ => ?_) (fun _ => ?_) <;> try (rename_i h; cases h; done)) | refine Tr.block ?_ | refine Tr.skip ?_ | refine Tr.ret ⟨_, rfl, ?_⟩)
      refine Sq.reim (r := true) rfl ?_
      refine Sq.f2i rfl (by rw [Tryz.underlying110]; rfl) Tryz.underlying3 qx.int ?_
      cases hb : fitsB c i p.v j q.v
      · rw [hb] at hF
        refine Sq.callv rfl (hF) ?_
        repeat' (first | refine Tr.seq ?_ | refine Tr.region ?_ | refine Sq.ev tab_ok rfl rfl ?_ | refine Sq.nil ?_ | (refine Sq.guard rfl rfl (fun _ => ?_) (fun _ => ?_) <;> refine Sq.ev tab_ok rfl rfl ?_) | (refine Tr.cond rfl (fun _ => ?_) (fun _ => ?_) <;> try (rename_i h; cases h; done)) | refine Tr.block ?_ | refine Tr.skip ?_ | refine Tr.ret ⟨_, rfl, ?_⟩)
        rw [bad (by
          rw [hA, ← Bool.not_eq_true, List.all_eq_true]
          intro hh
          have := hh j (List.mem_range.2 (by omega))
          rw [hqj] at this
          simp only at this
          rw [hb] at this; cases this)]
      · rw [hb] at hF
        refine Sq.callv rfl (hF) ?_
        repeat' (first | refine Tr.seq ?_ | refine Tr.region ?_ | refine Sq.ev tab_ok rfl rfl ?_ | refine Sq.nil ?_ | (refine Sq.guard rfl rfl (fun _ => ?_) (fun _ => ?_) <;> refine Sq.ev tab_ok rfl rfl ?_) | (refine Tr.cond rfl (fun _ => ?_) (fun _ => ?_) <;> try (rename_i h; cases h; done)) | refine Tr.block ?_ | refine Tr.skip ?_ | refine Tr.ret ⟨_, rfl, ?_⟩)
        exact ⟨j + 1, ⟨by omega, by rw [List.range_succ, List.all_append, hq]; simp [hqj, hb]⟩, by omega, Sub.app (l := [_, _, _, _, _, _, _, _, _, _, _]) (H := []) ⟨rfl, rfl, rfl, rfl, rfl, rfl, rfl, rfl, rfl, rfl, congrArg some (wrapz (by omega) (by omega) (by omega)), trivial⟩ (fun κ v h => nomatch h)⟩
    · rename_i h3
      have h3 : decide ((j : Int) < (((l.take i).map plT).length : Int)) = false := h3
      rw [List.length_map, hti] at h3
      have h3 := of_decide_eq_false h3
      have : j = i := by omega
      subst this
      refine Tr.exit ?_
      repeat' (first | refine Tr.seq ?_ | refine Tr.region ?_ | refine Sq.ev tab_ok rfl rfl ?_ | refine Sq.nil ?_ | (refine Sq.guard rfl rfl (fun _ => ?_) (fun _ => ?_) <;> refine Sq.ev tab_ok rfl rfl ?_) | (refine Tr.cond rfl (fun _ => ?_) (fun _ => ?_) <;> try (rename_i h; cases h; done)) | refine Tr.block ?_ | refine Tr.skip ?_ | refine Tr.ret ⟨_, rfl, ?_⟩)
      exact ⟨j + 1, ⟨by omega, by rw [List.range_succ, List.all_append, hp]; simp [hA, hq]⟩, by omega, Sub.app (l := [_, _, _, _, _, _]) (H := []) ⟨rfl, rfl, rfl, rfl, rfl, congrArg some (wrapz (by omega) (by omega) (by omega)), trivial⟩ (fun κ v h => nomatch h)⟩
  · rename_i h2
    have : i = l.length := by simp only [List.length_map, decide_eq_false_iff_not] at h2; omega
    subst this
    refine Tr.exit ?_
    repeat' (first | refine Tr.seq ?_ | refine Tr.region ?_ | refine Sq.ev tab_ok rfl rfl ?_ | refine Sq.nil ?_ | (refine Sq.guard rfl rfl (fun _ => ?_) (fun _ => ?_) <;> refine Sq.ev tab_ok rfl rfl ?_) | (refine Tr.cond rfl (fun _ => ?_) (fun _ => ?_) <;> try (rename_i h; cases h; done)) | refine Tr.block ?_ | refine Tr.skip ?_ | refine Tr.ret ⟨_, rfl, ?_⟩)
    rw [hG, hp]
end Go.Lg.Tryz

set_option linter.unusedVariables false
set_option linter.unusedSimpArgs false
namespace Go.Lg.Tryz
open Go Go.Proofs Go.RowKit Go.Lib Go.Lg.Sem
def vN (k : Int) : Ver := ⟨k, 0, 0, ⟨#[]⟩⟩
def exN (op : Int) : List Nd := [⟨0, [[⟨op, if op > 0 then vN 1 else vN 0⟩]]⟩]
def exC : Ctl := [⟨⟨#[97]⟩, [⟨vN 1, 0, []⟩, ⟨vN 2, 0, []⟩]⟩, ⟨⟨#[98]⟩, [⟨vN 1, 0, exN 6⟩, ⟨vN 2, 0, exN 0⟩]⟩]
abbrev exH : Store := [(.e 0, .blk 75 [int 1, int 0, int 0, str ⟨#[]⟩])]
theorem example1_ok (op : Int) : Fn Tryz.prog Gw 53 [int op, .ptr (.e 0) 0] exH (· = .own 83 ((exN op).map ndT)) := by
  refine Fn.of tab_ok Tryz.func53 rfl (by decide) (by simp [Tryz.f53]) rfl (fun κ v h => (lk1 h).1 ▸ rfl) Gw.below ?_
  repeat' (first | refine Tr.seq ?_ | refine Tr.region ?_ | refine Sq.ev tab_ok rfl rfl ?_ | refine Sq.nil ?_ | (refine Sq.guard rfl rfl (fun _ => ?_) (fun _ => ?_) <;> refine Sq.ev tab_ok rfl rfl ?_) | (refine Tr.cond rfl (fun _ => ?_) (fun _ => ?_) <;> try (rename_i h; cases h; done)) | refine Tr.block ?_ | refine Tr.skip ?_ | refine Tr.ret ⟨_, rfl, ?_⟩)
  · rename_i h
    have h := of_decide_eq_true h
    unfold exN; rw [if_pos h]; rfl
  · rename_i h
    have h := of_decide_eq_false h
    unfold exN; rw [if_neg h]; rfl
set_option maxRecDepth 8192 in
theorem example_ok : Fn Tryz.prog Gw 29 [] [] (· = .tr (ctlT exC)) := by
  have h6 := example1_ok 6
  have h0 := example1_ok 0
  refine Fn.of tab_ok Tryz.func29 rfl (by decide) (by simp [Tryz.f29]) rfl (fun κ v h => by cases h) Gw.below ?_
  repeat' (first | refine Tr.seq ?_ | refine Tr.region ?_ | refine Sq.ev tab_ok rfl rfl ?_ | refine Sq.nil ?_ | (refine Sq.guard rfl rfl (fun _ => ?_) (fun _ => ?_) <;> refine Sq.ev tab_ok rfl rfl ?_) | (refine Tr.cond rfl (fun _ => ?_) (fun _ => ?_) <;> try (rename_i h; cases h; done)) | refine Tr.block ?_ | refine Tr.skip ?_ | refine Tr.ret ⟨_, rfl, ?_⟩)
  refine Tr.drawn ( DSq.ev tab_ok rfl rfl <| DSq.ev tab_ok rfl rfl <| DSq.ev tab_ok rfl rfl <| DSq.ev tab_ok rfl rfl <| DSq.ev tab_ok rfl rfl <| DSq.ev tab_ok rfl rfl <| DSq.ev tab_ok rfl rfl <| DSq.ev tab_ok rfl rfl <| DSq.call rfl (fun _ => rfl) (h6) <| DSq.ev tab_ok rfl rfl <| DSq.ev tab_ok rfl rfl <| DSq.ev tab_ok rfl rfl <| DSq.call rfl (fun _ => rfl) (h0) <| DSq.ev tab_ok rfl rfl <| DSq.ev tab_ok rfl rfl <| DSq.ev tab_ok rfl rfl <| DSq.ev tab_ok rfl rfl <| DSq.ev tab_ok rfl rfl <| DSq.ev tab_ok rfl rfl <| DSq.nil _) mix_ok rfl ?_
  repeat' (first | refine Tr.seq ?_ | refine Tr.region ?_ | refine Sq.ev tab_ok rfl rfl ?_ | refine Sq.nil ?_ | (refine Sq.guard rfl rfl (fun _ => ?_) (fun _ => ?_) <;> refine Sq.ev tab_ok rfl rfl ?_) | (refine Tr.cond rfl (fun _ => ?_) (fun _ => ?_) <;> try (rename_i h; cases h; done)) | refine Tr.block ?_ | refine Tr.skip ?_ | refine Tr.ret ⟨_, rfl, ?_⟩)
  rfl
theorem exC_ok : Ctl.ok exC := ctl_ok (by decide +kernel)
theorem exC_lv : ∀ s, s ∈ exC → s.rels.length ≤ 12 ∧ ∀ r, r ∈ s.rels → 0 ≤ r.level ∧ r.level ≤ 1000 := by
  intro s hs
  simp only [exC, List.mem_cons, List.not_mem_nil, or_false] at hs
  rcases hs with rfl | rfl <;> refine ⟨by decide, fun r hr => ?_⟩ <;> simp only [List.mem_cons, List.not_mem_nil, or_false] at hr <;> rcases hr with rfl | rfl <;> exact ⟨by decide, by decide⟩
theorem exC_nm : ∀ s, s ∈ exC → s.name.size ≤ 1000000000 := by
  intro s hs
  simp only [exC, List.mem_cons, List.not_mem_nil, or_false] at hs
  rcases hs with rfl | rfl <;> decide
theorem exC_edges : edges exC = [(0, 1)] := by decide +kernel
theorem exC_cyc : false = true ↔ CycP exC.length (edges exC) := by
  refine ⟨fun h => (nomatch h), ?_⟩
  rintro ⟨a, _, h⟩
  exfalso
  rw [exC_edges] at h
  have key : ∀ a b, EdgeWay [(0, 1)] a b → a = 0 ∧ b = 1 := by
    intro a b h
    induction h with
    | one e => simpa using e
    | snoc _ e ih =>
      obtain ⟨rfl, rfl⟩ := ih
      simp at e
  obtain ⟨rfl, h⟩ := key _ _ h
  omega
theorem edges_p (c : Ctl) : ∀ p, p ∈ edges c → p.1 < c.length ∧ p.2 < c.length := fun p hp => ⟨(edges_mem.1 hp).1, (edges_mem.1 hp).2.1⟩
theorem edges_l {c : Ctl} (h : c.length ≤ 12) : (edges c).length ≤ 4096 := by
  have := edges_len c
  have : c.length * c.length ≤ 12 * 12 := Nat.mul_le_mul h h
  omega
theorem catCheck_ok {c : Ctl} (h : Ctl.ok c) (hn : ∀ s, s ∈ c → s.name.size ≤ 1000000000) {cyc : Bool} (hc : cyc = true ↔ CycP c.length (edges c)) :
    Fn Tryz.prog Gw 12 [.tr (ctlT c)] [] (· = tri (checkV c cyc)) :=
  Check_ok h hn cyc (fun hl => Order_ok _ _ (by omega) (edges_l hl) (edges_p c) cyc hc)
theorem catRefCheck_ok {c : Ctl} (h : Ctl.ok c) (hn : ∀ s, s ∈ c → s.name.size ≤ 1000000000) {cyc : Bool} (hc : cyc = true ↔ CycP c.length (edges c)) :
    Fn Tryz.prog Gw 13 [.tr (ctlT c)] [] (· = tri (checkV c cyc)) :=
  refCheck_ok h hn cyc (fun hl => Circle_ok _ _ (by omega) (edges_l hl) (edges_p c) cyc hc)
theorem catRight_ok (c : Ctl) {cyc : Bool} (hc : cyc = true ↔ CycP c.length (edges c)) : Fn Tryz.prog Gw 14 [.tr (ctlT c)] [] (MadeRt c (smallC c && ((checkV c cyc).2.2 == 0))) :=
  madeRight_ok c cyc (fun hl => Circle_ok _ _ (by omega) (edges_l hl) (edges_p c) cyc hc)
theorem cyc_ex (c : Ctl) : ∃ cyc : Bool, cyc = true ↔ CycP c.length (edges c) := by
  classical exact ⟨decide (CycP c.length (edges c)), by simp⟩
abbrev exPl : Pl := ⟨floatOfInt .f64 1, floatOfInt .f64 0, 1, 0⟩
theorem exPl_ok : exPl.ok := ⟨OkX.of (v := 1) (by omega) (by omega), OkX.of (v := 0) (by omega) (by omega), by decide⟩
theorem exSettled : settledA exC [1, 1] = .tup [.tr (.ls [plT exPl, plT exPl]), int 0] := by
  have h : rightV exC [1, 1] = true := by decide +kernel
  unfold settledA
  rw [if_pos h]; rfl
set_option maxRecDepth 8192 in
theorem anchor_ok : Fn Tryz.prog Gw 10 [] [] (· = bool true) := by
  have hC := catCheck_ok exC_ok exC_nm exC_cyc
  rw [show checkV exC false = (0, 0, 0) by decide +kernel] at hC
  have hS := Settled_ok (c := exC) (by decide) exC_lv [1, 1]
  rw [exSettled] at hS
  have hF1 := Fits_ok exC_ok 0 1 1 0
  rw [show fitsB exC 0 1 1 0 = false by decide +kernel] at hF1
  have hF2 := Fits_ok exC_ok 0 1 1 1
  rw [show fitsB exC 0 1 1 1 = true by decide +kernel] at hF2
  have hL := Linked_ok exC_ok 0 1
  rw [show linkedC exC 0 1 = true by decide +kernel] at hL
  have hG := Good_ok exC_ok (fun s hs => (exC_lv s hs).2) (by decide) [exPl, exPl] (by
    intro p hp
    simp only [List.mem_cons, List.not_mem_nil, or_false, or_self] at hp
    subst hp; exact exPl_ok)
  rw [show goodB exC [exPl, exPl] = true by decide +kernel] at hG
  have hE := example_ok
  generalize exC = X at *
  refine Fn.of tab_ok Tryz.func10 rfl (by decide) (by simp [Tryz.f10]) rfl (fun κ v h => by cases h) Gw.below ?_
  repeat' (first | refine Tr.seq ?_ | refine Tr.region ?_ | refine Sq.ev tab_ok rfl rfl ?_ | refine Sq.nil ?_ | (refine Sq.guard rfl rfl (fun _ => ?_) (fun _ => ?_) <;> refine Sq.ev tab_ok rfl rfl ?_) | (refine Tr.cond rfl (fun _ => ?_) (fun _ => ?_) <;> try (rename_i h; cases h; done)) | refine Tr.block ?_ | refine Tr.skip ?_ | refine Tr.ret ⟨_, rfl, ?_⟩)
  refine Sq.callv rfl (hE) ?_
  repeat' (first | refine Tr.seq ?_ | refine Tr.region ?_ | refine Sq.ev tab_ok rfl rfl ?_ | refine Sq.nil ?_ | (refine Sq.guard rfl rfl (fun _ => ?_) (fun _ => ?_) <;> refine Sq.ev tab_ok rfl rfl ?_) | (refine Tr.cond rfl (fun _ => ?_) (fun _ => ?_) <;> try (rename_i h; cases h; done)) | refine Tr.block ?_ | refine Tr.skip ?_ | refine Tr.ret ⟨_, rfl, ?_⟩)
  refine Sq.callv rfl (hC) ?_
  repeat' (first | refine Tr.seq ?_ | refine Tr.region ?_ | refine Sq.ev tab_ok rfl rfl ?_ | refine Sq.nil ?_ | (refine Sq.guard rfl rfl (fun _ => ?_) (fun _ => ?_) <;> refine Sq.ev tab_ok rfl rfl ?_) | (refine Tr.cond rfl (fun _ => ?_) (fun _ => ?_) <;> try (rename_i h; cases h; done)) | refine Tr.block ?_ | refine Tr.skip ?_ | refine Tr.ret ⟨_, rfl, ?_⟩)
  refine Sq.callv rfl (hS) ?_
  repeat' (first | refine Tr.seq ?_ | refine Tr.region ?_ | refine Sq.ev tab_ok rfl rfl ?_ | refine Sq.nil ?_ | (refine Sq.guard rfl rfl (fun _ => ?_) (fun _ => ?_) <;> refine Sq.ev tab_ok rfl rfl ?_) | (refine Tr.cond rfl (fun _ => ?_) (fun _ => ?_) <;> try (rename_i h; cases h; done)) | refine Tr.block ?_ | refine Tr.skip ?_ | refine Tr.ret ⟨_, rfl, ?_⟩)
  refine Sq.callv rfl (hF1) ?_
  repeat' (first | refine Tr.seq ?_ | refine Tr.region ?_ | refine Sq.ev tab_ok rfl rfl ?_ | refine Sq.nil ?_ | (refine Sq.guard rfl rfl (fun _ => ?_) (fun _ => ?_) <;> refine Sq.ev tab_ok rfl rfl ?_) | (refine Tr.cond rfl (fun _ => ?_) (fun _ => ?_) <;> try (rename_i h; cases h; done)) | refine Tr.block ?_ | refine Tr.skip ?_ | refine Tr.ret ⟨_, rfl, ?_⟩)
  refine Sq.callv rfl (hF2) ?_
  repeat' (first | refine Tr.seq ?_ | refine Tr.region ?_ | refine Sq.ev tab_ok rfl rfl ?_ | refine Sq.nil ?_ | (refine Sq.guard rfl rfl (fun _ => ?_) (fun _ => ?_) <;> refine Sq.ev tab_ok rfl rfl ?_) | (refine Tr.cond rfl (fun _ => ?_) (fun _ => ?_) <;> try (rename_i h; cases h; done)) | refine Tr.block ?_ | refine Tr.skip ?_ | refine Tr.ret ⟨_, rfl, ?_⟩)
  refine Sq.callv rfl (hL) ?_
  repeat' (first | refine Tr.seq ?_ | refine Tr.region ?_ | refine Sq.ev tab_ok rfl rfl ?_ | refine Sq.nil ?_ | (refine Sq.guard rfl rfl (fun _ => ?_) (fun _ => ?_) <;> refine Sq.ev tab_ok rfl rfl ?_) | (refine Tr.cond rfl (fun _ => ?_) (fun _ => ?_) <;> try (rename_i h; cases h; done)) | refine Tr.block ?_ | refine Tr.skip ?_ | refine Tr.ret ⟨_, rfl, ?_⟩)
  refine Sq.callv rfl (hG) ?_
  repeat' (first | refine Tr.seq ?_ | refine Tr.region ?_ | refine Sq.ev tab_ok rfl rfl ?_ | refine Sq.nil ?_ | (refine Sq.guard rfl rfl (fun _ => ?_) (fun _ => ?_) <;> refine Sq.ev tab_ok rfl rfl ?_) | (refine Tr.cond rfl (fun _ => ?_) (fun _ => ?_) <;> try (rename_i h; cases h; done)) | refine Tr.block ?_ | refine Tr.skip ?_ | refine Tr.ret ⟨_, rfl, ?_⟩)
  rfl
/-- CatalogChecks. -/
theorem CatalogChecks_ok (c : Ctl) : Fn Tryz.prog Gw 3 [.tr (ctlT c)] [] (· = bool true) := by
  obtain ⟨cyc, hc⟩ := cyc_ex c
  have hA := anchor_ok
  have hM := madeCat_ok c
  refine Fn.of tab_ok Tryz.func3 rfl (by decide) (by simp [Tryz.f3]) rfl (fun κ v h => by cases h) Gw.below ?_
  repeat' (first | refine Tr.seq ?_ | refine Tr.region ?_ | refine Sq.ev tab_ok rfl rfl ?_ | refine Sq.nil ?_ | (refine Sq.guard rfl rfl (fun _ => ?_) (fun _ => ?_) <;> refine Sq.ev tab_ok rfl rfl ?_) | (refine Tr.cond rfl (fun _ => ?_) (fun _ => ?_) <;> try (rename_i h; cases h; done)) | refine Tr.block ?_ | refine Tr.skip ?_ | refine Tr.ret ⟨_, rfl, ?_⟩)
  refine Sq.callv rfl (hA) ?_
  repeat' (first | refine Tr.seq ?_ | refine Tr.region ?_ | refine Sq.ev tab_ok rfl rfl ?_ | refine Sq.nil ?_ | (refine Sq.guard rfl rfl (fun _ => ?_) (fun _ => ?_) <;> refine Sq.ev tab_ok rfl rfl ?_) | (refine Tr.cond rfl (fun _ => ?_) (fun _ => ?_) <;> try (rename_i h; cases h; done)) | refine Tr.block ?_ | refine Tr.skip ?_ | refine Tr.ret ⟨_, rfl, ?_⟩)
  refine Sq.call rfl hM ?_
  rintro _ ⟨q, rfl, hq⟩
  cases hs : smallC c
  · repeat' (first | refine Tr.seq ?_ | refine Tr.region ?_ | refine Sq.ev tab_ok rfl rfl ?_ | refine Sq.nil ?_ | (refine Sq.guard rfl rfl (fun _ => ?_) (fun _ => ?_) <;> refine Sq.ev tab_ok rfl rfl ?_) | (refine Tr.cond rfl (fun _ => ?_) (fun _ => ?_) <;> try (rename_i h; cases h; done)) | refine Tr.block ?_ | refine Tr.skip ?_ | refine Tr.ret ⟨_, rfl, ?_⟩)
    rfl
  · have e := hq hs
    subst e
    have h1 := catCheck_ok (ctl_ok hs) (small_names hs) hc
    have h2 := catRefCheck_ok (ctl_ok hs) (small_names hs) hc
    generalize checkV q cyc = V at *
    repeat' (first | refine Tr.seq ?_ | refine Tr.region ?_ | refine Sq.ev tab_ok rfl rfl ?_ | refine Sq.nil ?_ | (refine Sq.guard rfl rfl (fun _ => ?_) (fun _ => ?_) <;> refine Sq.ev tab_ok rfl rfl ?_) | (refine Tr.cond rfl (fun _ => ?_) (fun _ => ?_) <;> try (rename_i h; cases h; done)) | refine Tr.block ?_ | refine Tr.skip ?_ | refine Tr.ret ⟨_, rfl, ?_⟩)
    refine Sq.callv rfl (h1) ?_
    repeat' (first | refine Tr.seq ?_ | refine Tr.region ?_ | refine Sq.ev tab_ok rfl rfl ?_ | refine Sq.nil ?_ | (refine Sq.guard rfl rfl (fun _ => ?_) (fun _ => ?_) <;> refine Sq.ev tab_ok rfl rfl ?_) | (refine Tr.cond rfl (fun _ => ?_) (fun _ => ?_) <;> try (rename_i h; cases h; done)) | refine Tr.block ?_ | refine Tr.skip ?_ | refine Tr.ret ⟨_, rfl, ?_⟩)
    refine Sq.callv rfl (h2) ?_
    repeat' (first | refine Tr.seq ?_ | refine Tr.region ?_ | refine Sq.ev tab_ok rfl rfl ?_ | refine Sq.nil ?_ | (refine Sq.guard rfl rfl (fun _ => ?_) (fun _ => ?_) <;> refine Sq.ev tab_ok rfl rfl ?_) | (refine Tr.cond rfl (fun _ => ?_) (fun _ => ?_) <;> try (rename_i h; cases h; done)) | refine Tr.block ?_ | refine Tr.skip ?_ | refine Tr.ret ⟨_, rfl, ?_⟩)
    · rw [show (V.2.2 == V.2.2) = true by simp]
    · rename_i h; exfalso
      have h : (V.2.1 == V.2.1) = false := h
      simp at h
    · rename_i h; exfalso
      have h : (V.1 == V.1) = false := h
      simp at h
end Go.Lg.Tryz

set_option linter.unusedVariables false
set_option linter.unusedSimpArgs false
namespace Go.Lg.Tryz
open Go Go.Proofs Go.RowKit Go.Lib Go.Lg.Sem
theorem eqA_int (d : Nat) (x y : Int) (w : World) : (Op.equalIn (d + 1) 3 (.int .i64 x) (.int .i64 y)).run Tryz.prog w = .ok (x == y) w := by
  simp [Op.equalIn, run_underlying Tryz.underlying3]
theorem eqA_two (e : Nat) (x0 x1 : Int) (w : World) (hi : ∀ x w, (Op.equalIn e 3 (.int .i64 x) (.int .i64 x)).run Tryz.prog w = .ok true w) :
    (Op.equalIn (e + 1) 44 (.agg #[.int .i64 x0, .int .i64 x1]) (.agg #[.int .i64 x0, .int .i64 x1])).run Tryz.prog w = .ok true w := by
  have hz : ∀ w, (sizeOf 3).run Tryz.prog w = .ok 1 w := fun w => by go_simp
  have h0 : ∀ w, (part 3 #[Value.int .i64 x0, Value.int .i64 x1] 0).run Tryz.prog w = .ok (.int .i64 x0) w := fun w => by go_simp
  have h1 : ∀ w, (part 3 #[Value.int .i64 x0, Value.int .i64 x1] 1).run Tryz.prog w = .ok (.int .i64 x1) w := fun w => by go_simp
  simp [Op.equalIn, run_underlying Tryz.underlying44, hz, List.range', h0, h1, hi]
theorem eqA_ed (d : Nat) (x0 x1 : Int) (w : World) :
    (Op.equalIn (d + 2) 44 (.agg #[.int .i64 x0, .int .i64 x1]) (.agg #[.int .i64 x0, .int .i64 x1])).run Tryz.prog w = .ok true w :=
  eqA_two (d + 1) x0 x1 w (fun x w => by rw [eqA_int]; simp)
theorem right_of {c : Ctl} {cyc : Bool} (h : (checkV c cyc).2.2 = 0) : 1 ≤ c.length ∧ c.length ≤ 12 ∧ cyc = false ∧ ∀ i, i < c.length → (svcE c i).2.2 = 0 := by
  have h0 : ¬ (c.length < 1 ∨ c.length > 12) := fun h0 => by unfold checkV at h; rw [if_pos h0] at h; cases h
  have hall : ∀ i, i < c.length → (svcE c i).2.2 = 0 := by
    intro i
    induction i using Nat.strongRecOn with
    | _ i ih =>
      intro hi
      apply Classical.byContradiction
      intro hne
      rw [check_svc h0 hi (fun j hj => ih j hj (by omega)) hne] at h
      exact hne h
  refine ⟨by omega, by omega, ?_, hall⟩
  rw [check_none h0 hall] at h
  cases cyc
  · rfl
  · simp at h
set_option maxRecDepth 8192 in
theorem CatalogGraphs_ok (c : Ctl) (i j : Int) : Fn Tryz.prog Gw 4 [.tr (ctlT c), int i, int j] [] (· = bool true) := by
  obtain ⟨cyc, hc⟩ := cyc_ex c
  have hA := anchor_ok
  have hM := catRight_ok c hc
  refine Fn.of tab_ok Tryz.func4 rfl (by decide) (by simp [Tryz.f4]) rfl (fun κ v h => by cases h) Gw.below ?_
  repeat' (first | refine Tr.seq ?_ | refine Tr.region ?_ | refine Sq.ev tab_ok rfl rfl ?_ | refine Sq.nil ?_ | (refine Sq.guard rfl rfl (fun _ => ?_) (fun _ => ?_) <;> refine Sq.ev tab_ok rfl rfl ?_) | (refine Tr.cond rfl (fun _ => ?_) (fun _ => ?_) <;> try (rename_i h; cases h; done)) | refine Tr.block ?_ | refine Tr.skip ?_ | refine Tr.ret ⟨_, rfl, ?_⟩)
  refine Sq.callv rfl (hA) ?_
  repeat' (first | refine Tr.seq ?_ | refine Tr.region ?_ | refine Sq.ev tab_ok rfl rfl ?_ | refine Sq.nil ?_ | (refine Sq.guard rfl rfl (fun _ => ?_) (fun _ => ?_) <;> refine Sq.ev tab_ok rfl rfl ?_) | (refine Tr.cond rfl (fun _ => ?_) (fun _ => ?_) <;> try (rename_i h; cases h; done)) | refine Tr.block ?_ | refine Tr.skip ?_ | refine Tr.ret ⟨_, rfl, ?_⟩)
  refine Sq.call rfl hM ?_
  rintro _ ⟨q, rfl, hq⟩
  cases hs : smallC c && ((checkV c cyc).2.2 == 0)
  · repeat' (first | refine Tr.seq ?_ | refine Tr.region ?_ | refine Sq.ev tab_ok rfl rfl ?_ | refine Sq.nil ?_ | (refine Sq.guard rfl rfl (fun _ => ?_) (fun _ => ?_) <;> refine Sq.ev tab_ok rfl rfl ?_) | (refine Tr.cond rfl (fun _ => ?_) (fun _ => ?_) <;> try (rename_i h; cases h; done)) | refine Tr.block ?_ | refine Tr.skip ?_ | refine Tr.ret ⟨_, rfl, ?_⟩)
    rfl
  · have e := hq hs
    subst e
    rw [Bool.and_eq_true, beq_iff_eq] at hs
    obtain ⟨hs, hv⟩ := hs
    obtain ⟨hc1, hc2, hcy, _⟩ := right_of hv
    have hok := ctl_ok hs
    have hG := Graph_ok hok (by omega)
    have hR := refGraph_ok hok (by omega)
    have hL := Linked_ok hok i j
    have hL2 := Linked_ok hok j i
    rw [linked_comm q j i] at hL2
    have hRL := refLinked_ok hok i j
    have hO := Order_ok _ _ (by omega) (edges_l hc2) (edges_p q) cyc hc
    rw [if_neg (by rw [hcy]; simp)] at hO
    have hE : ∀ p, p ∈ edges q → linkedC q p.1 p.2 = true := fun p hp => by
      obtain ⟨h1, h2, h3⟩ := edges_mem.1 hp
      have hne : p.1 ≠ p.2 := fun e => by
        have := (hc.2 ⟨p.1, h1, .one (show (p.1, p.1) ∈ edges q by
          have : p = (p.1, p.1) := by rw [Prod.ext_iff]; exact ⟨rfl, e.symm⟩
          rw [this] at hp; exact hp)⟩)
        rw [hcy] at this; cases this
      unfold linkedC pairB
      rw [Int.toNat_natCast, Int.toNat_natCast, h3, Bool.or_true, Bool.and_true]
      simp only [Bool.and_eq_true, decide_eq_true_eq, bne_iff_ne]
      omega
    have hLp : ∀ p, p ∈ edges q → Fn Tryz.prog Gw 17 [.tr (ctlT q), int p.1, int p.2] [] (· = bool true) := fun p hp => by
      have := Linked_ok hok (p.1 : Int) (p.2 : Int)
      rw [hE p hp] at this; exact this
    have hne1 : ((q.length : Int) != (q.length : Int)) = false := by simp
    have hne2 : ((((edges q).map edT).length : Int) != (((edges q).map edT).length : Int)) = false := by simp
    have hne3 : ∀ b : Bool, (b != b) = false := fun b => by simp
    have hsm := edges_l hc2
    generalize linkedC q i j = lk0 at *
    generalize edges q = es at *
    repeat' (first | refine Tr.seq ?_ | refine Tr.region ?_ | refine Sq.ev tab_ok rfl rfl ?_ | refine Sq.nil ?_ | (refine Sq.guard rfl rfl (fun _ => ?_) (fun _ => ?_) <;> refine Sq.ev tab_ok rfl rfl ?_) | (refine Tr.cond rfl (fun _ => ?_) (fun _ => ?_) <;> try (rename_i h; cases h; done)) | refine Tr.block ?_ | refine Tr.skip ?_ | refine Tr.ret ⟨_, rfl, ?_⟩)
    refine Tr.drawn ( DSq.ev tab_ok rfl rfl <| DSq.call rfl (fun _ => rfl) (hG) <| DSq.ev tab_ok rfl rfl <| DSq.call rfl (fun _ => rfl) (hR) <| DSq.ev tab_ok rfl rfl <| DSq.ev tab_ok rfl rfl <| DSq.ev tab_ok rfl rfl <| DSq.ev tab_ok rfl rfl <| DSq.nil _) mix_ok rfl ?_
    refine Tr.seq ?_
    refine Tr.seq ?_
    refine Tr.drawn ( DSq.ev tab_ok rfl rfl <| DSq.ev tab_ok rfl rfl <| DSq.ev tab_ok rfl rfl <| DSq.ev tab_ok rfl rfl <| DSq.evr tab_ok rfl (congrArg bool hne1) <| DSq.ev tab_ok rfl rfl <| DSq.ev tab_ok rfl rfl <| DSq.ev tab_ok rfl rfl <| DSq.ev tab_ok rfl rfl <| DSq.ev tab_ok rfl rfl <| DSq.ev tab_ok rfl rfl <| DSq.ev tab_ok rfl rfl <| DSq.evr tab_ok rfl (congrArg bool hne2) <| DSq.ev tab_ok rfl rfl <| DSq.ev tab_ok rfl rfl <| DSq.ev tab_ok rfl rfl <| DSq.ev tab_ok rfl rfl <| DSq.ev tab_ok rfl rfl <| DSq.call rfl (fun _ => rfl) (hL) <| DSq.ev tab_ok rfl rfl <| DSq.ev tab_ok rfl rfl <| DSq.ev tab_ok rfl rfl <| DSq.call rfl (fun _ => rfl) (hRL) <| DSq.evr tab_ok rfl (congrArg bool (hne3 lk0)) <| DSq.ev tab_ok rfl rfl <| DSq.ev tab_ok rfl rfl <| DSq.ev tab_ok rfl rfl <| DSq.ev tab_ok rfl rfl <| DSq.ev tab_ok rfl rfl <| DSq.call rfl (fun _ => rfl) (hL) <| DSq.ev tab_ok rfl rfl <| DSq.ev tab_ok rfl rfl <| DSq.ev tab_ok rfl rfl <| DSq.call rfl (fun _ => rfl) (hL2) <| DSq.evr tab_ok rfl (congrArg bool (hne3 lk0)) <| DSq.ev tab_ok rfl rfl <| DSq.nil _) mix_ok rfl ?_
    repeat' (first | refine Tr.seq ?_ | refine Tr.region ?_ | refine Sq.ev tab_ok rfl rfl ?_ | refine Sq.nil ?_ | (refine Sq.guard rfl rfl (fun _ => ?_) (fun _ => ?_) <;> refine Sq.ev tab_ok rfl rfl ?_) | (refine Tr.cond rfl (fun _ => ?_) (fun _ => ?_) <;> try (rename_i h; cases h; done)) | refine Tr.block ?_ | refine Tr.skip ?_ | refine Tr.ret ⟨_, rfl, ?_⟩)
    refine Tr.loopS (fun k : Nat => [(.s 3, .ptr (.l 3) 0), (.l 3, .blk 24 [.tr (.ls (q.map svcT))]), (.s 9, .ptr (.l 9) 0), (.l 9, .blk 39 [int q.length, .tr (.ls (es.map edT))]), (.s 10, .ptr (.l 10) 0), (.l 10, .blk 41 [int q.length, .tr (.ls (es.map edT))]), (.s 65, .tr (.ls (es.map edT))), (.s 66, int (es.map edT).length), (.s 67, int k)]) (fun k => es.length - k)
      (fun k => k ≤ es.length) 0 (by omega) (Sub.app (l := [_, _, _, _, _, _, _, _, _]) (H := []) ⟨rfl, rfl, rfl, rfl, rfl, rfl, rfl, rfl, rfl, trivial⟩ (fun κ v h => nomatch h)) ?_
    rintro k hk
    repeat' (first | refine Tr.seq ?_ | refine Tr.region ?_ | refine Sq.ev tab_ok rfl rfl ?_ | refine Sq.nil ?_ | (refine Sq.guard rfl rfl (fun _ => ?_) (fun _ => ?_) <;> refine Sq.ev tab_ok rfl rfl ?_) | (refine Tr.cond rfl (fun _ => ?_) (fun _ => ?_) <;> try (rename_i h; cases h; done)) | refine Tr.block ?_ | refine Tr.skip ?_ | refine Tr.ret ⟨_, rfl, ?_⟩)
    · rename_i h2
      have hlt : k < es.length := by simp only [List.length_map, decide_eq_true_eq] at h2; omega
      obtain ⟨p, hpk⟩ : ∃ p, es[k]? = some p := ⟨_, List.getElem?_eq_getElem hlt⟩
      have hpe : (es.map edT)[((k : Nat) : Int).toNat]? = some (edT p) := by simp [hpk]
      have hL3 := hLp p (List.mem_of_getElem? hpk)
      obtain ⟨u, v⟩ := p
      refine Sq.index (x := edT (u, v)) tab_ok rfl (by omega) (hpe) rfl ?_
      repeat' (first | refine Tr.seq ?_ | refine Tr.region ?_ | refine Sq.ev tab_ok rfl rfl ?_ | refine Sq.nil ?_ | (refine Sq.guard rfl rfl (fun _ => ?_) (fun _ => ?_) <;> refine Sq.ev tab_ok rfl rfl ?_) | (refine Tr.cond rfl (fun _ => ?_) (fun _ => ?_) <;> try (rename_i h; cases h; done)) | refine Tr.block ?_ | refine Tr.skip ?_ | refine Tr.ret ⟨_, rfl, ?_⟩)
      refine Tr.drawn ( DSq.ev tab_ok rfl rfl <| DSq.ev tab_ok rfl rfl <| DSq.ev tab_ok rfl rfl <| DSq.ev tab_ok rfl rfl <| DSq.one rfl (fun q K hK => Sq.index (x := edT (u, v)) tab_ok rfl (by omega) (hpe) rfl (Sq.nil hK)) <| DSq.ev tab_ok rfl rfl <| DSq.eqag rfl (fun _ => rfl) (by kernel_rfl) (fun w => eqA_ed 9998 (u : Int) (v : Int) w) <| DSq.ev tab_ok rfl rfl <| DSq.ev tab_ok rfl rfl <| DSq.one rfl (fun q K hK => Sq.indexA (j := 0) (len := 2) tab_ok rfl (by omega) (by omega) (Sq.nil hK)) <| DSq.ev tab_ok rfl rfl <| DSq.one rfl (fun q K hK => Sq.indexA (j := 1) (len := 2) tab_ok rfl (by omega) (by omega) (Sq.nil hK)) <| DSq.ev tab_ok rfl rfl <| DSq.call rfl (fun _ => rfl) (hL3) <| DSq.ev tab_ok rfl rfl <| DSq.ev tab_ok rfl rfl <| DSq.nil _) mix_ok rfl ?_
      repeat' (first | refine Tr.seq ?_ | refine Tr.region ?_ | refine Sq.ev tab_ok rfl rfl ?_ | refine Sq.nil ?_ | (refine Sq.guard rfl rfl (fun _ => ?_) (fun _ => ?_) <;> refine Sq.ev tab_ok rfl rfl ?_) | (refine Tr.cond rfl (fun _ => ?_) (fun _ => ?_) <;> try (rename_i h; cases h; done)) | refine Tr.block ?_ | refine Tr.skip ?_ | refine Tr.ret ⟨_, rfl, ?_⟩)
      exact ⟨k + 1, by omega, by omega, Sub.app (l := [_, _, _, _, _, _, _, _, _]) (H := []) ⟨rfl, rfl, rfl, rfl, rfl, rfl, rfl, rfl, congrArg some (wrapz (by omega) (by omega) (by omega)), trivial⟩ (fun κ v h => nomatch h)⟩
    · refine Tr.exit ?_
      repeat' (first | refine Tr.seq ?_ | refine Tr.region ?_ | refine Sq.ev tab_ok rfl rfl ?_ | refine Sq.nil ?_ | (refine Sq.guard rfl rfl (fun _ => ?_) (fun _ => ?_) <;> refine Sq.ev tab_ok rfl rfl ?_) | (refine Tr.cond rfl (fun _ => ?_) (fun _ => ?_) <;> try (rename_i h; cases h; done)) | refine Tr.block ?_ | refine Tr.skip ?_ | refine Tr.ret ⟨_, rfl, ?_⟩)
      refine Sq.call rfl hO ?_
      rintro _ ⟨l, rfl⟩
      repeat' (first | refine Tr.seq ?_ | refine Tr.region ?_ | refine Sq.ev tab_ok rfl rfl ?_ | refine Sq.nil ?_ | (refine Sq.guard rfl rfl (fun _ => ?_) (fun _ => ?_) <;> refine Sq.ev tab_ok rfl rfl ?_) | (refine Tr.cond rfl (fun _ => ?_) (fun _ => ?_) <;> try (rename_i h; cases h; done)) | refine Tr.block ?_ | refine Tr.skip ?_ | refine Tr.ret ⟨_, rfl, ?_⟩)
      rfl
end Go.Lg.Tryz

set_option linter.unusedVariables false
set_option linter.unusedSimpArgs false
namespace Go.Lg.Tryz
open Go Go.Proofs Go.RowKit Go.Lib Go.Lg.Sem
theorem asks_rel {c : Ctl} {i : Nat} {j : Int} {v : Int} {r : Rls} (h : asks c i j = false) (hr : relAt c i v = some r) (w : Ver) : metB r j w = true := by
  unfold metB
  rw [Bool.not_eq_true', ← Bool.not_eq_true]
  intro hh
  obtain ⟨n, hn, hb⟩ := List.any_eq_true.1 hh
  rw [Bool.and_eq_true] at hb
  unfold relAt at hr
  rw [Int.toNat_natCast] at hr
  unfold asks at h
  cases hs : c[i]? with
  | none => rw [hs] at hr; cases hr
  | some s =>
    rw [hs] at hr h
    simp only at hr h
    split at hr
    · have hm : r ∈ s.rels := List.mem_of_getElem? hr
      have : asksS s j = true := List.any_eq_true.2 ⟨r, hm, List.any_eq_true.2 ⟨n, hn, hb.1⟩⟩
      rw [this] at h; cases h
    · cases hr
theorem fits_free {c : Ctl} {i j : Int} (v w : Int) (hp : pairB c i j = true) (hl : linkedC c i j = false) : fitsB c i v j w = ((relAt c i v).isSome && (relAt c j w).isSome) := by
  unfold linkedC at hl
  rw [hp, Bool.true_and, Bool.or_eq_false_iff] at hl
  obtain ⟨h1, h2, _⟩ := pairB_of hp
  have e1 : ((i.toNat : Nat) : Int) = i := by omega
  have e2 : ((j.toNat : Nat) : Int) = j := by omega
  unfold fitsB
  rw [hp, Bool.true_and]
  cases ha : relAt c i v with
  | none => cases relAt c j w <;> rfl
  | some a =>
    cases hb : relAt c j w with
    | none => rfl
    | some b =>
      simp only [Option.isSome_some, Bool.and_true]
      rw [asks_rel (i := i.toNat) (v := v) hl.1 (by rw [e1]; exact ha), asks_rel (i := j.toNat) (v := w) hl.2 (by rw [e2]; exact hb)]; rfl
theorem fits_nopair {c : Ctl} {i j : Int} (v w : Int) (hp : pairB c i j = false) : fitsB c i v j w = false ∧ linkedC c i j = false := by
  unfold fitsB linkedC; rw [hp]; exact ⟨rfl, rfl⟩
theorem pair_no {c : Ctl} {i j : Int} (hp : pairB c i j = false) (h1 : decide (i ≥ 0) = true) (h2 : decide (j ≥ 0) = true) (h3 : decide (i < ((c.map svcT).length : Int)) = true) (h4 : decide (j < ((c.map svcT).length : Int)) = true) (h5 : (i != j) = true) : False := by
  rw [List.length_map] at h3 h4
  have h1 := of_decide_eq_true h1
  have h2 := of_decide_eq_true h2
  have h3 := of_decide_eq_true h3
  have h4 := of_decide_eq_true h4
  have : pairB c i j = true := by
    unfold pairB
    rw [decide_eq_true h1, decide_eq_true h2, decide_eq_true h3, decide_eq_true h4, h5]; rfl
  rw [this] at hp; cases hp
theorem pair_yes {c : Ctl} {i j : Int} (hp : pairB c i j = true) : decide (i ≥ 0) = true ∧ decide (j ≥ 0) = true ∧ decide (i < ((c.map svcT).length : Int)) = true ∧ decide (j < ((c.map svcT).length : Int)) = true ∧ (i != j) = true := by
  obtain ⟨h1, h2, h3, h4, h5⟩ := pairB_of hp
  exact ⟨decide_eq_true h1, decide_eq_true h2, decide_eq_true (by rw [List.length_map]; exact h3), decide_eq_true (by rw [List.length_map]; exact h4), by simpa using h5⟩
theorem tf {b : Bool} (h1 : b = true) (h2 : b = false) : False := by rw [h1] at h2; cases h2
set_option maxRecDepth 8192 in
theorem CatalogFits_ok (c : Ctl) (i v j w : Int) : Fn Tryz.prog Gw 5 [.tr (ctlT c), int i, int v, int j, int w] [] (· = bool true) := by
  obtain ⟨cyc, hc⟩ := cyc_ex c
  have hA := anchor_ok
  have hM := catRight_ok c hc
  refine Fn.of tab_ok Tryz.func5 rfl (by decide) (by simp [Tryz.f5]) rfl (fun κ v h => by cases h) Gw.below ?_
  repeat' (first | refine Tr.seq ?_ | refine Tr.region ?_ | refine Sq.ev tab_ok rfl rfl ?_ | refine Sq.nil ?_ | (refine Sq.guard rfl rfl (fun _ => ?_) (fun _ => ?_) <;> refine Sq.ev tab_ok rfl rfl ?_) | (refine Tr.cond rfl (fun _ => ?_) (fun _ => ?_) <;> try (rename_i h; cases h; done)) | refine Tr.block ?_ | refine Tr.skip ?_ | refine Tr.ret ⟨_, rfl, ?_⟩)
  refine Sq.callv rfl (hA) ?_
  repeat' (first | refine Tr.seq ?_ | refine Tr.region ?_ | refine Sq.ev tab_ok rfl rfl ?_ | refine Sq.nil ?_ | (refine Sq.guard rfl rfl (fun _ => ?_) (fun _ => ?_) <;> refine Sq.ev tab_ok rfl rfl ?_) | (refine Tr.cond rfl (fun _ => ?_) (fun _ => ?_) <;> try (rename_i h; cases h; done)) | refine Tr.block ?_ | refine Tr.skip ?_ | refine Tr.ret ⟨_, rfl, ?_⟩)
  refine Sq.call rfl hM ?_
  rintro _ ⟨q, rfl, hq⟩
  cases hs : smallC c && ((checkV c cyc).2.2 == 0)
  · repeat' (first | refine Tr.seq ?_ | refine Tr.region ?_ | refine Sq.ev tab_ok rfl rfl ?_ | refine Sq.nil ?_ | (refine Sq.guard rfl rfl (fun _ => ?_) (fun _ => ?_) <;> refine Sq.ev tab_ok rfl rfl ?_) | (refine Tr.cond rfl (fun _ => ?_) (fun _ => ?_) <;> try (rename_i h; cases h; done)) | refine Tr.block ?_ | refine Tr.skip ?_ | refine Tr.ret ⟨_, rfl, ?_⟩)
    rfl
  have e := hq hs
  subst e
  rw [Bool.and_eq_true, beq_iff_eq] at hs
  obtain ⟨hs, hv⟩ := hs
  obtain ⟨hc1, hc2, hcy, _⟩ := right_of hv
  have hok := ctl_ok hs
  have hF := Fits_ok hok i v j w
  have hRF := refFits_ok hok i v j w
  have hF2 := Fits_ok hok j w i v
  rw [fits_comm q j w i v] at hF2
  have hL := Linked_ok hok i j
  cases hp : pairB q i j
  · obtain ⟨h1, h2⟩ := fits_nopair v w hp
    rw [h1] at hF hRF hF2
    rw [h2] at hL
    repeat' (first | refine Tr.seq ?_ | refine Tr.region ?_ | refine Sq.ev tab_ok rfl rfl ?_ | refine Sq.nil ?_ | (refine Sq.guard rfl rfl (fun _ => ?_) (fun _ => ?_) <;> refine Sq.ev tab_ok rfl rfl ?_) | (refine Tr.cond rfl (fun _ => ?_) (fun _ => ?_) <;> try (rename_i h; cases h; done)) | refine Tr.block ?_ | refine Tr.skip ?_ | refine Tr.ret ⟨_, rfl, ?_⟩)
    refine Sq.callv rfl (hF) ?_
    repeat' (first | refine Tr.seq ?_ | refine Tr.region ?_ | refine Sq.ev tab_ok rfl rfl ?_ | refine Sq.nil ?_ | (refine Sq.guard rfl rfl (fun _ => ?_) (fun _ => ?_) <;> refine Sq.ev tab_ok rfl rfl ?_) | (refine Tr.cond rfl (fun _ => ?_) (fun _ => ?_) <;> try (rename_i h; cases h; done)) | refine Tr.block ?_ | refine Tr.skip ?_ | refine Tr.ret ⟨_, rfl, ?_⟩)
    refine Sq.callv rfl (hRF) ?_
    repeat' (first | refine Tr.seq ?_ | refine Tr.region ?_ | refine Sq.ev tab_ok rfl rfl ?_ | refine Sq.nil ?_ | (refine Sq.guard rfl rfl (fun _ => ?_) (fun _ => ?_) <;> refine Sq.ev tab_ok rfl rfl ?_) | (refine Tr.cond rfl (fun _ => ?_) (fun _ => ?_) <;> try (rename_i h; cases h; done)) | refine Tr.block ?_ | refine Tr.skip ?_ | refine Tr.ret ⟨_, rfl, ?_⟩)
    refine Sq.callv rfl (hF2) ?_
    repeat' (first | refine Tr.seq ?_ | refine Tr.region ?_ | refine Sq.ev tab_ok rfl rfl ?_ | refine Sq.nil ?_ | (refine Sq.guard rfl rfl (fun _ => ?_) (fun _ => ?_) <;> refine Sq.ev tab_ok rfl rfl ?_) | (refine Tr.cond rfl (fun _ => ?_) (fun _ => ?_) <;> try (rename_i h; cases h; done)) | refine Tr.block ?_ | refine Tr.skip ?_ | refine Tr.ret ⟨_, rfl, ?_⟩)
    all_goals first
      | exact (pair_no hp (by assumption) (by assumption) (by assumption) (by assumption) (by assumption)).elim
      | skip
    all_goals
      refine Sq.callv rfl (hL) ?_
      repeat' (first | refine Tr.seq ?_ | refine Tr.region ?_ | refine Sq.ev tab_ok rfl rfl ?_ | refine Sq.nil ?_ | (refine Sq.guard rfl rfl (fun _ => ?_) (fun _ => ?_) <;> refine Sq.ev tab_ok rfl rfl ?_) | (refine Tr.cond rfl (fun _ => ?_) (fun _ => ?_) <;> try (rename_i h; cases h; done)) | refine Tr.block ?_ | refine Tr.skip ?_ | refine Tr.ret ⟨_, rfl, ?_⟩)
      rfl
  obtain ⟨p1, p2, p3, p4, p5⟩ := pair_yes hp
  obtain ⟨q1, q2, q3, q4, q5⟩ := pairB_of hp
  obtain ⟨s, hsi⟩ : ∃ s, q[i.toNat]? = some s := ⟨_, List.getElem?_eq_getElem (by omega)⟩
  obtain ⟨u, huj⟩ : ∃ u, q[j.toNat]? = some u := ⟨_, List.getElem?_eq_getElem (by omega)⟩
  have hse : (q.map svcT)[i.toNat]? = some (svcT s) := by simp [hsi]
  have hue : (q.map svcT)[j.toNat]? = some (svcT u) := by simp [huj]
  have hne : ∀ b : Bool, (b != b) = false := fun b => by simp
  have hfr : linkedC q i j = false → fitsB q i v j w = (decide (0 ≤ v) && decide (0 ≤ w) && decide (v < (s.rels.length : Int)) && decide (w < (u.rels.length : Int))) := fun hl => by
    rw [fits_free v w hp hl]
    have key : ∀ (v : Int) (i : Int) (s : Svc), q[i.toNat]? = some s → (relAt q i v).isSome = (decide (0 ≤ v) && decide (v < (s.rels.length : Int))) := by
      intro v i s hsi
      by_cases hv : 0 ≤ v
      · rw [relAt_pos hsi hv, decide_eq_true hv, Bool.true_and]
        rw [Bool.eq_iff_iff, decide_eq_true_eq, Option.isSome_iff_exists]
        constructor
        · rintro ⟨a, ha⟩
          have := (List.getElem?_eq_some_iff.1 ha).1
          omega
        · intro h
          exact ⟨_, List.getElem?_eq_getElem (by omega)⟩
      · rw [relAt_neg (by omega), decide_eq_false hv]; rfl
    rw [key v i s hsi, key w j u huj]
    cases decide (0 ≤ v) <;> cases decide (0 ≤ w) <;> simp
  generalize fitsB q i v j w = F at *
  cases hlk : linkedC q i j
  · rw [hlk] at hL
    have hfr := hfr hlk
    repeat' (first | refine Tr.seq ?_ | refine Tr.region ?_ | refine Sq.ev tab_ok rfl rfl ?_ | refine Sq.nil ?_ | (refine Sq.guard rfl rfl (fun _ => ?_) (fun _ => ?_) <;> refine Sq.ev tab_ok rfl rfl ?_) | (refine Tr.cond rfl (fun _ => ?_) (fun _ => ?_) <;> try (rename_i h; cases h; done)) | refine Tr.block ?_ | refine Tr.skip ?_ | refine Tr.ret ⟨_, rfl, ?_⟩)
    refine Sq.callv rfl (hF) ?_
    repeat' (first | refine Tr.seq ?_ | refine Tr.region ?_ | refine Sq.ev tab_ok rfl rfl ?_ | refine Sq.nil ?_ | (refine Sq.guard rfl rfl (fun _ => ?_) (fun _ => ?_) <;> refine Sq.ev tab_ok rfl rfl ?_) | (refine Tr.cond rfl (fun _ => ?_) (fun _ => ?_) <;> try (rename_i h; cases h; done)) | refine Tr.block ?_ | refine Tr.skip ?_ | refine Tr.ret ⟨_, rfl, ?_⟩)
    refine Sq.callv rfl (hRF) ?_
    refine Sq.ev tab_ok rfl rfl ?_
    refine Sq.re (congrArg bool (hne F)) ?_
    repeat' (first | refine Tr.seq ?_ | refine Tr.region ?_ | refine Sq.ev tab_ok rfl rfl ?_ | refine Sq.nil ?_ | (refine Sq.guard rfl rfl (fun _ => ?_) (fun _ => ?_) <;> refine Sq.ev tab_ok rfl rfl ?_) | (refine Tr.cond rfl (fun _ => ?_) (fun _ => ?_) <;> try (rename_i h; cases h; done)) | refine Tr.block ?_ | refine Tr.skip ?_ | refine Tr.ret ⟨_, rfl, ?_⟩)
    refine Sq.callv rfl (hF2) ?_
    refine Sq.ev tab_ok rfl rfl ?_
    refine Sq.re (congrArg bool (hne F)) ?_
    repeat' (first | refine Tr.seq ?_ | refine Tr.region ?_ | refine Sq.ev tab_ok rfl rfl ?_ | refine Sq.nil ?_ | (refine Sq.guard rfl rfl (fun _ => ?_) (fun _ => ?_) <;> refine Sq.ev tab_ok rfl rfl ?_) | (refine Tr.cond rfl (fun _ => ?_) (fun _ => ?_) <;> try (rename_i h; cases h; done)) | refine Tr.block ?_ | refine Tr.skip ?_ | refine Tr.ret ⟨_, rfl, ?_⟩)
    all_goals first
      | exact (tf p1 (by assumption)).elim
      | exact (tf p2 (by assumption)).elim
      | exact (tf p3 (by assumption)).elim
      | exact (tf p4 (by assumption)).elim
      | exact (tf p5 (by assumption)).elim
      | skip
    · rename_i hv0 hw0
      have hv0 := of_decide_eq_true hv0
      have hw0 := of_decide_eq_true hw0
      rw [decide_eq_true (show 0 ≤ v from hv0), decide_eq_true (show 0 ≤ w from hw0), Bool.true_and, Bool.true_and] at hfr
      refine Sq.index (x := svcT s) tab_ok rfl (by omega) (hse) rfl ?_
      repeat' (first | refine Tr.seq ?_ | refine Tr.region ?_ | refine Sq.ev tab_ok rfl rfl ?_ | refine Sq.nil ?_ | (refine Sq.guard rfl rfl (fun _ => ?_) (fun _ => ?_) <;> refine Sq.ev tab_ok rfl rfl ?_) | (refine Tr.cond rfl (fun _ => ?_) (fun _ => ?_) <;> try (rename_i h; cases h; done)) | refine Tr.block ?_ | refine Tr.skip ?_ | refine Tr.ret ⟨_, rfl, ?_⟩)
      · rename_i hv1
        have hv1 : decide (v < ((s.rels.map rlsT).length : Int)) = true := hv1
        rw [List.length_map] at hv1
        rw [hv1, Bool.true_and] at hfr
        refine Sq.index (x := svcT u) tab_ok rfl (by omega) (hue) rfl ?_
        repeat' (first | refine Tr.seq ?_ | refine Tr.region ?_ | refine Sq.ev tab_ok rfl rfl ?_ | refine Sq.nil ?_ | (refine Sq.guard rfl rfl (fun _ => ?_) (fun _ => ?_) <;> refine Sq.ev tab_ok rfl rfl ?_) | (refine Tr.cond rfl (fun _ => ?_) (fun _ => ?_) <;> try (rename_i h; cases h; done)) | refine Tr.block ?_ | refine Tr.skip ?_ | refine Tr.ret ⟨_, rfl, ?_⟩)
        refine Sq.callv rfl (hL) ?_
        repeat' (first | refine Tr.seq ?_ | refine Tr.region ?_ | refine Sq.ev tab_ok rfl rfl ?_ | refine Sq.nil ?_ | (refine Sq.guard rfl rfl (fun _ => ?_) (fun _ => ?_) <;> refine Sq.ev tab_ok rfl rfl ?_) | (refine Tr.cond rfl (fun _ => ?_) (fun _ => ?_) <;> try (rename_i h; cases h; done)) | refine Tr.block ?_ | refine Tr.skip ?_ | refine Tr.ret ⟨_, rfl, ?_⟩)
        show bool (F == decide (w < ((u.rels.map rlsT).length : Int))) = bool true
        rw [List.length_map, hfr]; simp
      · rename_i hv1
        have hv1 : decide (v < ((s.rels.map rlsT).length : Int)) = false := hv1
        rw [List.length_map] at hv1
        rw [hv1, Bool.false_and] at hfr
        refine Sq.callv rfl (hL) ?_
        repeat' (first | refine Tr.seq ?_ | refine Tr.region ?_ | refine Sq.ev tab_ok rfl rfl ?_ | refine Sq.nil ?_ | (refine Sq.guard rfl rfl (fun _ => ?_) (fun _ => ?_) <;> refine Sq.ev tab_ok rfl rfl ?_) | (refine Tr.cond rfl (fun _ => ?_) (fun _ => ?_) <;> try (rename_i h; cases h; done)) | refine Tr.block ?_ | refine Tr.skip ?_ | refine Tr.ret ⟨_, rfl, ?_⟩)
        rw [hfr]; rfl
    · rename_i hv0 hw0
      have hw0 := of_decide_eq_false hw0
      rw [decide_eq_false (show ¬ 0 ≤ w from hw0), Bool.and_false, Bool.false_and, Bool.false_and] at hfr
      refine Sq.callv rfl (hL) ?_
      repeat' (first | refine Tr.seq ?_ | refine Tr.region ?_ | refine Sq.ev tab_ok rfl rfl ?_ | refine Sq.nil ?_ | (refine Sq.guard rfl rfl (fun _ => ?_) (fun _ => ?_) <;> refine Sq.ev tab_ok rfl rfl ?_) | (refine Tr.cond rfl (fun _ => ?_) (fun _ => ?_) <;> try (rename_i h; cases h; done)) | refine Tr.block ?_ | refine Tr.skip ?_ | refine Tr.ret ⟨_, rfl, ?_⟩)
      rw [hfr]; rfl
    · rename_i hv0
      have hv0 := of_decide_eq_false hv0
      rw [decide_eq_false (show ¬ 0 ≤ v from hv0), Bool.false_and, Bool.false_and, Bool.false_and] at hfr
      refine Sq.callv rfl (hL) ?_
      repeat' (first | refine Tr.seq ?_ | refine Tr.region ?_ | refine Sq.ev tab_ok rfl rfl ?_ | refine Sq.nil ?_ | (refine Sq.guard rfl rfl (fun _ => ?_) (fun _ => ?_) <;> refine Sq.ev tab_ok rfl rfl ?_) | (refine Tr.cond rfl (fun _ => ?_) (fun _ => ?_) <;> try (rename_i h; cases h; done)) | refine Tr.block ?_ | refine Tr.skip ?_ | refine Tr.ret ⟨_, rfl, ?_⟩)
      rw [hfr]; rfl
  · rw [hlk] at hL
    repeat' (first | refine Tr.seq ?_ | refine Tr.region ?_ | refine Sq.ev tab_ok rfl rfl ?_ | refine Sq.nil ?_ | (refine Sq.guard rfl rfl (fun _ => ?_) (fun _ => ?_) <;> refine Sq.ev tab_ok rfl rfl ?_) | (refine Tr.cond rfl (fun _ => ?_) (fun _ => ?_) <;> try (rename_i h; cases h; done)) | refine Tr.block ?_ | refine Tr.skip ?_ | refine Tr.ret ⟨_, rfl, ?_⟩)
    refine Sq.callv rfl (hF) ?_
    repeat' (first | refine Tr.seq ?_ | refine Tr.region ?_ | refine Sq.ev tab_ok rfl rfl ?_ | refine Sq.nil ?_ | (refine Sq.guard rfl rfl (fun _ => ?_) (fun _ => ?_) <;> refine Sq.ev tab_ok rfl rfl ?_) | (refine Tr.cond rfl (fun _ => ?_) (fun _ => ?_) <;> try (rename_i h; cases h; done)) | refine Tr.block ?_ | refine Tr.skip ?_ | refine Tr.ret ⟨_, rfl, ?_⟩)
    refine Sq.callv rfl (hRF) ?_
    refine Sq.ev tab_ok rfl rfl ?_
    refine Sq.re (congrArg bool (hne F)) ?_
    repeat' (first | refine Tr.seq ?_ | refine Tr.region ?_ | refine Sq.ev tab_ok rfl rfl ?_ | refine Sq.nil ?_ | (refine Sq.guard rfl rfl (fun _ => ?_) (fun _ => ?_) <;> refine Sq.ev tab_ok rfl rfl ?_) | (refine Tr.cond rfl (fun _ => ?_) (fun _ => ?_) <;> try (rename_i h; cases h; done)) | refine Tr.block ?_ | refine Tr.skip ?_ | refine Tr.ret ⟨_, rfl, ?_⟩)
    refine Sq.callv rfl (hF2) ?_
    refine Sq.ev tab_ok rfl rfl ?_
    refine Sq.re (congrArg bool (hne F)) ?_
    repeat' (first | refine Tr.seq ?_ | refine Tr.region ?_ | refine Sq.ev tab_ok rfl rfl ?_ | refine Sq.nil ?_ | (refine Sq.guard rfl rfl (fun _ => ?_) (fun _ => ?_) <;> refine Sq.ev tab_ok rfl rfl ?_) | (refine Tr.cond rfl (fun _ => ?_) (fun _ => ?_) <;> try (rename_i h; cases h; done)) | refine Tr.block ?_ | refine Tr.skip ?_ | refine Tr.ret ⟨_, rfl, ?_⟩)
    all_goals first
      | exact (tf p1 (by assumption)).elim
      | exact (tf p2 (by assumption)).elim
      | exact (tf p3 (by assumption)).elim
      | exact (tf p4 (by assumption)).elim
      | exact (tf p5 (by assumption)).elim
      | skip
    · refine Sq.index (x := svcT s) tab_ok rfl (by omega) (hse) rfl ?_
      repeat' (first | refine Tr.seq ?_ | refine Tr.region ?_ | refine Sq.ev tab_ok rfl rfl ?_ | refine Sq.nil ?_ | (refine Sq.guard rfl rfl (fun _ => ?_) (fun _ => ?_) <;> refine Sq.ev tab_ok rfl rfl ?_) | (refine Tr.cond rfl (fun _ => ?_) (fun _ => ?_) <;> try (rename_i h; cases h; done)) | refine Tr.block ?_ | refine Tr.skip ?_ | refine Tr.ret ⟨_, rfl, ?_⟩)
      · refine Sq.index (x := svcT u) tab_ok rfl (by omega) (hue) rfl ?_
        repeat' (first | refine Tr.seq ?_ | refine Tr.region ?_ | refine Sq.ev tab_ok rfl rfl ?_ | refine Sq.nil ?_ | (refine Sq.guard rfl rfl (fun _ => ?_) (fun _ => ?_) <;> refine Sq.ev tab_ok rfl rfl ?_) | (refine Tr.cond rfl (fun _ => ?_) (fun _ => ?_) <;> try (rename_i h; cases h; done)) | refine Tr.block ?_ | refine Tr.skip ?_ | refine Tr.ret ⟨_, rfl, ?_⟩)
        refine Sq.callv rfl (hL) ?_
        repeat' (first | refine Tr.seq ?_ | refine Tr.region ?_ | refine Sq.ev tab_ok rfl rfl ?_ | refine Sq.nil ?_ | (refine Sq.guard rfl rfl (fun _ => ?_) (fun _ => ?_) <;> refine Sq.ev tab_ok rfl rfl ?_) | (refine Tr.cond rfl (fun _ => ?_) (fun _ => ?_) <;> try (rename_i h; cases h; done)) | refine Tr.block ?_ | refine Tr.skip ?_ | refine Tr.ret ⟨_, rfl, ?_⟩)
        rfl
      · refine Sq.callv rfl (hL) ?_
        repeat' (first | refine Tr.seq ?_ | refine Tr.region ?_ | refine Sq.ev tab_ok rfl rfl ?_ | refine Sq.nil ?_ | (refine Sq.guard rfl rfl (fun _ => ?_) (fun _ => ?_) <;> refine Sq.ev tab_ok rfl rfl ?_) | (refine Tr.cond rfl (fun _ => ?_) (fun _ => ?_) <;> try (rename_i h; cases h; done)) | refine Tr.block ?_ | refine Tr.skip ?_ | refine Tr.ret ⟨_, rfl, ?_⟩)
        rfl
    all_goals
      refine Sq.callv rfl (hL) ?_
      repeat' (first | refine Tr.seq ?_ | refine Tr.region ?_ | refine Sq.ev tab_ok rfl rfl ?_ | refine Sq.nil ?_ | (refine Sq.guard rfl rfl (fun _ => ?_) (fun _ => ?_) <;> refine Sq.ev tab_ok rfl rfl ?_) | (refine Tr.cond rfl (fun _ => ?_) (fun _ => ?_) <;> try (rename_i h; cases h; done)) | refine Tr.block ?_ | refine Tr.skip ?_ | refine Tr.ret ⟨_, rfl, ?_⟩)
      rfl
end Go.Lg.Tryz

set_option linter.unusedVariables false
set_option linter.unusedSimpArgs false
namespace Go.Lg.Tryz
open Go Go.Proofs Go.RowKit Go.Lib Go.Lg.Sem
theorem levels_of {c : Ctl} {cyc : Bool} (h : (checkV c cyc).2.2 = 0) : ∀ s, s ∈ c → s.rels.length ≤ 12 ∧ ∀ r, r ∈ s.rels → 0 ≤ r.level ∧ r.level ≤ 1000 := by
  obtain ⟨_, _, _, hall⟩ := right_of h
  intro s hs
  obtain ⟨i, hi⟩ := List.mem_iff_getElem?.1 hs
  have hil : i < c.length := by
    rcases Nat.lt_or_ge i c.length with h | h
    · exact h
    · rw [List.getElem?_eq_none h] at hi; cases hi
  have hE := hall i hil
  have hv : svcV c i = 0 := by
    apply Classical.byContradiction
    intro hv
    rw [svcE_svc hv] at hE
    exact hv hE
  have hrl : relsLen c i = s.rels.length := by unfold relsLen; rw [hi]
  have hr0 : ∀ k, k < s.rels.length → relV c i k = 0 := by
    intro k
    induction k using Nat.strongRecOn with
    | _ k ih =>
      intro hk
      apply Classical.byContradiction
      intro hne
      rw [svcE_rel hv (by rw [hrl]; exact hk) (fun j hj => ih j hj (by omega)) hne] at hE
      exact hne hE
  refine ⟨?_, fun r hr => ?_⟩
  · unfold svcV at hv
    rw [hi] at hv
    simp only at hv
    split at hv
    · omega
    · split at hv
      · omega
      · split at hv
        · omega
        · omega
  · obtain ⟨k, hk⟩ := List.mem_iff_getElem?.1 hr
    have hkl : k < s.rels.length := by
      rcases Nat.lt_or_ge k s.rels.length with h | h
      · exact h
      · rw [List.getElem?_eq_none h] at hk; cases hk
    have h0 := hr0 k hkl
    unfold relV at h0
    rw [hi] at h0
    simp only [hk] at h0
    split at h0
    · omega
    · split at h0
      · omega
      · split at h0
        · omega
        · rename_i h3
          omega
theorem ccmp_same {x y : Nat} {v f : Int} (h1 : OkX x v) (h2 : OkX y f) : ccmpB .neq x y x y = some false := by
  have e1 := h1.eq
  have e2 := h2.eq
  simp only [fcmpB, Option.some.injEq] at e1 e2
  simp only [ccmpB, e1, e2]; rfl
abbrev rgt (q : Ctl) (vs : List Int) (k : Nat) : Bool := decide (vs.length = q.length) && (List.range k).all (okAt q vs)
theorem rgt_succ (q : Ctl) (vs : List Int) (k : Nat) : rgt q vs (k + 1) = (rgt q vs k && okAt q vs k) := by
  unfold rgt
  rw [List.range_succ, List.all_append, Bool.and_assoc]; simp
theorem len_eq (q : Ctl) (vs : List Int) : (((vs.map intT).length : Int) == ((q.map svcT).length : Int)) = decide (vs.length = q.length) := by
  rw [List.length_map, List.length_map, Bool.eq_iff_iff, beq_iff_eq, decide_eq_true_eq]; omega
theorem okAt_eq {q : Ctl} {vs : List Int} {k : Nat} {v : Int} {s : Svc} (hv : vs[k]? = some v) (hs : q[k]? = some s) : okAt q vs k = (decide (v ≥ 0) && decide (v < (s.rels.length : Int))) := by
  unfold okAt
  rw [hv]
  simp only
  by_cases h : 0 ≤ v
  · rw [relAt_pos (s := s) (by simpa using hs) h, decide_eq_true (show v ≥ 0 from h), Bool.true_and, Bool.eq_iff_iff, decide_eq_true_eq, Option.isSome_iff_exists]
    constructor
    · rintro ⟨a, ha⟩
      have := (List.getElem?_eq_some_iff.1 ha).1
      omega
    · intro h
      exact ⟨_, List.getElem?_eq_getElem (by omega)⟩
  · rw [relAt_neg (by omega), decide_eq_false (show ¬ v ≥ 0 from h)]; rfl
set_option maxRecDepth 8192 in
theorem CatalogSettled_ok (c : Ctl) (vs : List Int) : Fn Tryz.prog Gw 6 [.tr (ctlT c), .tr (.ls (vs.map intT))] [] (· = bool true) := by
  obtain ⟨cyc, hc⟩ := cyc_ex c
  have hA := anchor_ok
  have hM := catRight_ok c hc
  refine Fn.of tab_ok Tryz.func6 rfl (by decide) (by simp [Tryz.f6]) rfl (fun κ v h => by cases h) Gw.below ?_
  repeat' (first | refine Tr.seq ?_ | refine Tr.region ?_ | refine Sq.ev tab_ok rfl rfl ?_ | refine Sq.nil ?_ | (refine Sq.guard rfl rfl (fun _ => ?_) (fun _ => ?_) <;> refine Sq.ev tab_ok rfl rfl ?_) | (refine Tr.cond rfl (fun _ => ?_) (fun _ => ?_) <;> try (rename_i h; cases h; done)) | refine Tr.block ?_ | refine Tr.skip ?_ | refine Tr.ret ⟨_, rfl, ?_⟩)
  refine Sq.callv rfl (hA) ?_
  repeat' (first | refine Tr.seq ?_ | refine Tr.region ?_ | refine Sq.ev tab_ok rfl rfl ?_ | refine Sq.nil ?_ | (refine Sq.guard rfl rfl (fun _ => ?_) (fun _ => ?_) <;> refine Sq.ev tab_ok rfl rfl ?_) | (refine Tr.cond rfl (fun _ => ?_) (fun _ => ?_) <;> try (rename_i h; cases h; done)) | refine Tr.block ?_ | refine Tr.skip ?_ | refine Tr.ret ⟨_, rfl, ?_⟩)
  refine Sq.call rfl hM ?_
  rintro _ ⟨q, rfl, hq⟩
  cases hs : smallC c && ((checkV c cyc).2.2 == 0)
  · repeat' (first | refine Tr.seq ?_ | refine Tr.region ?_ | refine Sq.ev tab_ok rfl rfl ?_ | refine Sq.nil ?_ | (refine Sq.guard rfl rfl (fun _ => ?_) (fun _ => ?_) <;> refine Sq.ev tab_ok rfl rfl ?_) | (refine Tr.cond rfl (fun _ => ?_) (fun _ => ?_) <;> try (rename_i h; cases h; done)) | refine Tr.block ?_ | refine Tr.skip ?_ | refine Tr.ret ⟨_, rfl, ?_⟩)
    rfl
  have e := hq hs
  subst e
  rw [Bool.and_eq_true, beq_iff_eq] at hs
  obtain ⟨hs, hv⟩ := hs
  obtain ⟨hc1, hc2, hcy, _⟩ := right_of hv
  have hlv := levels_of hv
  have hS := Settled_ok (by omega) hlv vs
  repeat' (first | refine Tr.seq ?_ | refine Tr.region ?_ | refine Sq.ev tab_ok rfl rfl ?_ | refine Sq.nil ?_ | (refine Sq.guard rfl rfl (fun _ => ?_) (fun _ => ?_) <;> refine Sq.ev tab_ok rfl rfl ?_) | (refine Tr.cond rfl (fun _ => ?_) (fun _ => ?_) <;> try (rename_i h; cases h; done)) | refine Tr.block ?_ | refine Tr.skip ?_ | refine Tr.ret ⟨_, rfl, ?_⟩)
  · rfl
  rename_i h20
  have h20 : decide (((vs.map intT).length : Int) > 20) = false := h20
  rw [List.length_map] at h20
  have h20 := of_decide_eq_false h20
  cases hr : rightV q vs
  · have hA2 : settledA q vs = .tup [.tr (.ls []), int 42] := by unfold settledA; rw [hr]; rfl
    rw [hA2] at hS
    refine Sq.callv rfl (hS) ?_
    repeat' (first | refine Tr.seq ?_ | refine Tr.region ?_ | refine Sq.ev tab_ok rfl rfl ?_ | refine Sq.nil ?_ | (refine Sq.guard rfl rfl (fun _ => ?_) (fun _ => ?_) <;> refine Sq.ev tab_ok rfl rfl ?_) | (refine Tr.cond rfl (fun _ => ?_) (fun _ => ?_) <;> try (rename_i h; cases h; done)) | refine Tr.block ?_ | refine Tr.skip ?_ | refine Tr.ret ⟨_, rfl, ?_⟩)
    refine Tr.loopS (fun k : Nat => [(.s 1, .tr (.ls (vs.map intT))), (.s 2, .ptr (.l 2) 0), (.l 2, .blk 24 [.tr (.ls (q.map svcT))]), (.s 5, .ptr (.l 5) 0), (.l 5, .blk 28 [.tr (.ls (q.map svcT))]), (.s 7, .tr (.ls [])), (.s 8, int 42), (.s 9, bool (rgt q vs k)), (.s 44, .tr (.ls (vs.map intT))), (.s 45, int (vs.map intT).length), (.s 46, int k)]) (fun k => vs.length - k)
      (fun k => k ≤ vs.length) 0 (by omega) (Sub.app (l := [_, _, _, _, _, _, _, _, _, _, _]) (H := []) ⟨rfl, rfl, rfl, rfl, rfl, rfl, rfl, congrArg (fun b => some (bool b)) (by rw [len_eq]; simp [rgt]), rfl, rfl, rfl, trivial⟩ (fun κ v h => nomatch h)) ?_
    rintro k hk
    have hst := rgt_succ q vs k
    repeat' (first | refine Tr.seq ?_ | refine Tr.region ?_ | refine Sq.ev tab_ok rfl rfl ?_ | refine Sq.nil ?_ | (refine Sq.guard rfl rfl (fun _ => ?_) (fun _ => ?_) <;> refine Sq.ev tab_ok rfl rfl ?_) | (refine Tr.cond rfl (fun _ => ?_) (fun _ => ?_) <;> try (rename_i h; cases h; done)) | refine Tr.block ?_ | refine Tr.skip ?_ | refine Tr.ret ⟨_, rfl, ?_⟩)
    · rename_i h2
      have hlt : k < vs.length := by simp only [List.length_map, decide_eq_true_eq] at h2; omega
      obtain ⟨v, hv⟩ : ∃ v, vs[k]? = some v := ⟨_, List.getElem?_eq_getElem hlt⟩
      have hve : (vs.map intT)[((k : Nat) : Int).toNat]? = some (intT v) := by simp [hv]
      generalize hb : rgt q vs k = b at *
      refine Sq.index (x := intT v) tab_ok rfl (by omega) (hve) rfl ?_
      cases b
      · repeat' (first | refine Tr.seq ?_ | refine Tr.region ?_ | refine Sq.ev tab_ok rfl rfl ?_ | refine Sq.nil ?_ | (refine Sq.guard rfl rfl (fun _ => ?_) (fun _ => ?_) <;> refine Sq.ev tab_ok rfl rfl ?_) | (refine Tr.cond rfl (fun _ => ?_) (fun _ => ?_) <;> try (rename_i h; cases h; done)) | refine Tr.block ?_ | refine Tr.skip ?_ | refine Tr.ret ⟨_, rfl, ?_⟩)
        exact ⟨k + 1, by omega, by omega, Sub.app (l := [_, _, _, _, _, _, _, _, _, _, _]) (H := []) ⟨rfl, rfl, rfl, rfl, rfl, rfl, rfl, congrArg (fun b => some (bool b)) (hst.trans rfl).symm, rfl, rfl, congrArg some (wrapz (by omega) (by omega) (by omega)), trivial⟩ (fun κ v h => nomatch h)⟩
      · have hlen : vs.length = q.length := by unfold rgt at hb; rw [Bool.and_eq_true, decide_eq_true_eq] at hb; exact hb.1
        obtain ⟨s, hsk⟩ : ∃ s, q[k]? = some s := ⟨_, List.getElem?_eq_getElem (by omega)⟩
        have hse : (q.map svcT)[((k : Nat) : Int).toNat]? = some (svcT s) := by simp [hsk]
        have hok := okAt_eq hv hsk
        rw [Bool.true_and] at hst
        repeat' (first | refine Tr.seq ?_ | refine Tr.region ?_ | refine Sq.ev tab_ok rfl rfl ?_ | refine Sq.nil ?_ | (refine Sq.guard rfl rfl (fun _ => ?_) (fun _ => ?_) <;> refine Sq.ev tab_ok rfl rfl ?_) | (refine Tr.cond rfl (fun _ => ?_) (fun _ => ?_) <;> try (rename_i h; cases h; done)) | refine Tr.block ?_ | refine Tr.skip ?_ | refine Tr.ret ⟨_, rfl, ?_⟩)
        · rename_i h5
          rw [h5, Bool.true_and] at hok
          refine Sq.index (x := svcT s) tab_ok rfl (by omega) (hse) rfl ?_
          repeat' (first | refine Tr.seq ?_ | refine Tr.region ?_ | refine Sq.ev tab_ok rfl rfl ?_ | refine Sq.nil ?_ | (refine Sq.guard rfl rfl (fun _ => ?_) (fun _ => ?_) <;> refine Sq.ev tab_ok rfl rfl ?_) | (refine Tr.cond rfl (fun _ => ?_) (fun _ => ?_) <;> try (rename_i h; cases h; done)) | refine Tr.block ?_ | refine Tr.skip ?_ | refine Tr.ret ⟨_, rfl, ?_⟩)
          exact ⟨k + 1, by omega, by omega, Sub.app (l := [_, _, _, _, _, _, _, _, _, _, _]) (H := []) ⟨rfl, rfl, rfl, rfl, rfl, rfl, rfl, congrArg (fun b => some (bool b)) (hst.trans (hok.trans (show decide (v < (s.rels.length : Int)) = decide (v < ((s.rels.map rlsT).length : Int)) by rw [List.length_map]))).symm, rfl, rfl, congrArg some (wrapz (by omega) (by omega) (by omega)), trivial⟩ (fun κ v h => nomatch h)⟩
        · rename_i h5
          rw [h5, Bool.false_and] at hok
          exact ⟨k + 1, by omega, by omega, Sub.app (l := [_, _, _, _, _, _, _, _, _, _, _]) (H := []) ⟨rfl, rfl, rfl, rfl, rfl, rfl, rfl, congrArg (fun b => some (bool b)) (hst.trans hok).symm, rfl, rfl, congrArg some (wrapz (by omega) (by omega) (by omega)), trivial⟩ (fun κ v h => nomatch h)⟩
    · rename_i h2
      have : k = vs.length := by simp only [List.length_map, decide_eq_false_iff_not] at h2; omega
      subst this
      have hr : rgt q vs vs.length = false := hr
      rw [hr]
      refine Tr.exit ?_
      repeat' (first | refine Tr.seq ?_ | refine Tr.region ?_ | refine Sq.ev tab_ok rfl rfl ?_ | refine Sq.nil ?_ | (refine Sq.guard rfl rfl (fun _ => ?_) (fun _ => ?_) <;> refine Sq.ev tab_ok rfl rfl ?_) | (refine Tr.cond rfl (fun _ => ?_) (fun _ => ?_) <;> try (rename_i h; cases h; done)) | refine Tr.block ?_ | refine Tr.skip ?_ | refine Tr.ret ⟨_, rfl, ?_⟩)
      rfl
  have hA2 : settledA q vs = .tup [.tr (.ls ((List.range vs.length).map (placeAt q vs))), int 0] := by unfold settledA; rw [hr]; rfl
  rw [hA2] at hS
  have hrr := hr
  unfold rightV at hrr
  rw [Bool.and_eq_true, decide_eq_true_eq, List.all_eq_true] at hrr
  obtain ⟨hlen, hall⟩ := hrr
  have hRS := refSettled_ok (by omega) hlv vs hr
  have hat : ∀ k, k < vs.length → ∃ v s r, vs[k]? = some v ∧ q[k]? = some s ∧ 0 ≤ v ∧ s.rels[v.toNat]? = some r ∧ relAt q k v = some r := by
    intro k hk
    obtain ⟨v, hv⟩ : ∃ v, vs[k]? = some v := ⟨_, List.getElem?_eq_getElem hk⟩
    obtain ⟨s, hs⟩ : ∃ s, q[k]? = some s := ⟨_, List.getElem?_eq_getElem (by omega)⟩
    have hok := hall k (List.mem_range.2 hk)
    unfold okAt at hok
    rw [hv] at hok
    simp only at hok
    obtain ⟨r, hrel⟩ := Option.isSome_iff_exists.1 hok
    have hv0 : 0 ≤ v := by
      rcases Int.lt_or_le v 0 with h | h
      · rw [relAt_neg h] at hrel; cases hrel
      · exact h
    exact ⟨v, s, r, hv, hs, hv0, by rw [relAt_pos (s := s) (by simpa using hs) hv0] at hrel; exact hrel, hrel⟩
  have hpl : ∀ (k : Nat) v r, vs[k]? = some v → relAt q k v = some r → placeAt q vs k = placeT v (2 * r.level) := fun k v r h1 h2 => by unfold placeAt; rw [h1]; simp only; rw [h2]
  have hpA : ∀ (k : Nat) v r, vs[k]? = some v → relAt q k v = some r → pAt q vs k = pT v (2 * r.level) := fun k v r h1 h2 => by unfold pAt; rw [h1]; simp only; rw [h2]
  generalize hLg : (List.range vs.length).map (placeAt q vs) = L at *
  generalize hWg : (List.range vs.length).map (pAt q vs) = Wn at *
  have hLl : L.length = vs.length := by rw [← hLg]; simp
  have hWl : Wn.length = vs.length := by rw [← hWg]; simp
  have hLa : ∀ k, k < vs.length → L[k]? = some (placeAt q vs k) := fun k hk => by rw [← hLg, List.getElem?_map, List.getElem?_range hk]; rfl
  have hWa : ∀ k, k < vs.length → Wn[k]? = some (pAt q vs k) := fun k hk => by rw [← hWg, List.getElem?_map, List.getElem?_range hk]; rfl
  refine Sq.callv rfl (hS) ?_
  repeat' (first | refine Tr.seq ?_ | refine Tr.region ?_ | refine Sq.ev tab_ok rfl rfl ?_ | refine Sq.nil ?_ | (refine Sq.guard rfl rfl (fun _ => ?_) (fun _ => ?_) <;> refine Sq.ev tab_ok rfl rfl ?_) | (refine Tr.cond rfl (fun _ => ?_) (fun _ => ?_) <;> try (rename_i h; cases h; done)) | refine Tr.block ?_ | refine Tr.skip ?_ | refine Tr.ret ⟨_, rfl, ?_⟩)
  refine Tr.loopS (fun k : Nat => [(.s 1, .tr (.ls (vs.map intT))), (.s 2, .ptr (.l 2) 0), (.l 2, .blk 24 [.tr (.ls (q.map svcT))]), (.s 5, .ptr (.l 5) 0), (.l 5, .blk 28 [.tr (.ls (q.map svcT))]), (.s 7, .tr (.ls L)), (.s 8, int 0), (.s 9, bool true), (.s 44, .tr (.ls (vs.map intT))), (.s 45, int (vs.map intT).length), (.s 46, int k)]) (fun k => vs.length - k)
    (fun k => k ≤ vs.length) 0 (by omega) (Sub.app (l := [_, _, _, _, _, _, _, _, _, _, _]) (H := []) ⟨rfl, rfl, rfl, rfl, rfl, rfl, rfl, congrArg (fun b => some (bool b)) (by rw [len_eq, decide_eq_true hlen]), rfl, rfl, rfl, trivial⟩ (fun κ v h => nomatch h)) ?_
  rintro k hk
  repeat' (first | refine Tr.seq ?_ | refine Tr.region ?_ | refine Sq.ev tab_ok rfl rfl ?_ | refine Sq.nil ?_ | (refine Sq.guard rfl rfl (fun _ => ?_) (fun _ => ?_) <;> refine Sq.ev tab_ok rfl rfl ?_) | (refine Tr.cond rfl (fun _ => ?_) (fun _ => ?_) <;> try (rename_i h; cases h; done)) | refine Tr.block ?_ | refine Tr.skip ?_ | refine Tr.ret ⟨_, rfl, ?_⟩)
  · rename_i h2
    have hlt : k < vs.length := by simp only [List.length_map, decide_eq_true_eq] at h2; omega
    obtain ⟨v, s, r, hv, hsk, hv0, hrv, hrel⟩ := hat k hlt
    have hve : (vs.map intT)[((k : Nat) : Int).toNat]? = some (intT v) := by simp [hv]
    have hse : (q.map svcT)[((k : Nat) : Int).toNat]? = some (svcT s) := by simp [hsk]
    have hvl := (List.getElem?_eq_some_iff.1 hrv).1
    refine Sq.index (x := intT v) tab_ok rfl (by omega) (hve) rfl ?_
    repeat' (first | refine Tr.seq ?_ | refine Tr.region ?_ | refine Sq.ev tab_ok rfl rfl ?_ | refine Sq.nil ?_ | (refine Sq.guard rfl rfl (fun _ => ?_) (fun _ => ?_) <;> refine Sq.ev tab_ok rfl rfl ?_) | (refine Tr.cond rfl (fun _ => ?_) (fun _ => ?_) <;> try (rename_i h; cases h; done)) | refine Tr.block ?_ | refine Tr.skip ?_ | refine Tr.ret ⟨_, rfl, ?_⟩)
    · refine Sq.index (x := svcT s) tab_ok rfl (by omega) (hse) rfl ?_
      repeat' (first | refine Tr.seq ?_ | refine Tr.region ?_ | refine Sq.ev tab_ok rfl rfl ?_ | refine Sq.nil ?_ | (refine Sq.guard rfl rfl (fun _ => ?_) (fun _ => ?_) <;> refine Sq.ev tab_ok rfl rfl ?_) | (refine Tr.cond rfl (fun _ => ?_) (fun _ => ?_) <;> try (rename_i h; cases h; done)) | refine Tr.block ?_ | refine Tr.skip ?_ | refine Tr.ret ⟨_, rfl, ?_⟩)
      exact ⟨k + 1, by omega, by omega, Sub.app (l := [_, _, _, _, _, _, _, _, _, _, _]) (H := []) ⟨rfl, rfl, rfl, rfl, rfl, rfl, rfl, congrArg (fun b => some (bool b)) (show decide (v < ((s.rels.map rlsT).length : Int)) = true by rw [List.length_map]; exact decide_eq_true (by omega)), rfl, rfl, congrArg some (wrapz (by omega) (by omega) (by omega)), trivial⟩ (fun κ v h => nomatch h)⟩
    · rename_i h5; exfalso
      have h5 := of_decide_eq_false h5
      omega
  rename_i h2
  have : k = vs.length := by simp only [List.length_map, decide_eq_false_iff_not] at h2; omega
  subst this
  refine Tr.exit ?_
  repeat' (first | refine Tr.seq ?_ | refine Tr.region ?_ | refine Sq.ev tab_ok rfl rfl ?_ | refine Sq.nil ?_ | (refine Sq.guard rfl rfl (fun _ => ?_) (fun _ => ?_) <;> refine Sq.ev tab_ok rfl rfl ?_) | (refine Tr.cond rfl (fun _ => ?_) (fun _ => ?_) <;> try (rename_i h; cases h; done)) | refine Tr.block ?_ | refine Tr.skip ?_ | refine Tr.ret ⟨_, rfl, ?_⟩)
  refine Sq.callv rfl (hRS) ?_
  repeat' (first | refine Tr.seq ?_ | refine Tr.region ?_ | refine Sq.ev tab_ok rfl rfl ?_ | refine Sq.nil ?_ | (refine Sq.guard rfl rfl (fun _ => ?_) (fun _ => ?_) <;> refine Sq.ev tab_ok rfl rfl ?_) | (refine Tr.cond rfl (fun _ => ?_) (fun _ => ?_) <;> try (rename_i h; cases h; done)) | refine Tr.block ?_ | refine Tr.skip ?_ | refine Tr.ret ⟨_, rfl, ?_⟩)
  · rename_i h6; exfalso
    have h6 : ((L.length : Int) != (Wn.length : Int)) = true := h6
    rw [hLl, hWl] at h6; simp at h6
  refine Tr.loopS (fun k : Nat => [(.s 1, .tr (.ls (vs.map intT))), (.s 2, .ptr (.l 2) 0), (.l 2, .blk 24 [.tr (.ls (q.map svcT))]), (.s 5, .ptr (.l 5) 0), (.l 5, .blk 28 [.tr (.ls (q.map svcT))]), (.s 7, .tr (.ls L)), (.s 8, int 0), (.s 89, .tr (.ls Wn)), (.s 90, int Wn.length), (.s 91, int k)]) (fun k => vs.length - k)
    (fun k => k ≤ vs.length) 0 (by omega) (Sub.app (l := [_, _, _, _, _, _, _, _, _, _]) (H := []) ⟨rfl, rfl, rfl, rfl, rfl, rfl, rfl, rfl, rfl, rfl, trivial⟩ (fun κ v h => nomatch h)) ?_
  rintro k hk
  repeat' (first | refine Tr.seq ?_ | refine Tr.region ?_ | refine Sq.ev tab_ok rfl rfl ?_ | refine Sq.nil ?_ | (refine Sq.guard rfl rfl (fun _ => ?_) (fun _ => ?_) <;> refine Sq.ev tab_ok rfl rfl ?_) | (refine Tr.cond rfl (fun _ => ?_) (fun _ => ?_) <;> try (rename_i h; cases h; done)) | refine Tr.block ?_ | refine Tr.skip ?_ | refine Tr.ret ⟨_, rfl, ?_⟩)
  · rename_i _ h2
    have hlt : k < vs.length := by
      have h2 : decide ((k : Int) < (Wn.length : Int)) = true := h2
      have := of_decide_eq_true h2; omega
    obtain ⟨v, s, r, hv, hsk, hv0, hrv, hrel⟩ := hat k hlt
    have hvl := (List.getElem?_eq_some_iff.1 hrv).1
    have hsm := List.mem_of_getElem? hsk
    obtain ⟨hs12, hsr⟩ := hlv s hsm
    obtain ⟨l0, l1⟩ := hsr r (List.mem_of_getElem? hrv)
    have hwe : Wn[((k : Nat) : Int).toNat]? = some (pT v (2 * r.level)) := by rw [Int.toNat_natCast, hWa k hlt, hpA k v r hv hrel]
    have hle : L[((k : Nat) : Int).toNat]? = some (placeT v (2 * r.level)) := by rw [Int.toNat_natCast, hLa k hlt, hpl k v r hv hrel]
    have x0 := OkX.of (v := v) (by omega) (by omega)
    have y0 := OkX.of (v := 2 * r.level) (by omega) (by omega)
    have y1 := OkX.of (v := 2 * r.level + 1) (by omega) (by omega)
    have y2 := OkX.of (v := 2 * r.level - 1) (by omega) (by omega)
    have y3 := OkX.of (v := 2 * r.level + 2) (by omega) (by omega)
    have n0 := Number_ok' v (2 * r.level)
    have n1 := Number_ok' v (2 * r.level + 1)
    have n2 := Number_ok' v (2 * r.level - 1)
    have n3 := Number_ok' v (IntKind.i64.wrap (2 * r.level + 2))
    rw [show placeT v (IntKind.i64.wrap (2 * r.level + 2)) = placeT v (2 * r.level + 2) by rw [Go.IntWalk.i64_in _ ⟨by omega, by omega⟩]] at n3
    have w1 := Go.IntWalk.i64_in (2 * r.level + 1) ⟨by omega, by omega⟩
    have w2 := Go.IntWalk.i64_in (2 * r.level - 1) ⟨by omega, by omega⟩
    have hsB : ∀ f, standsB q k v f = (decide (0 ≤ f) && (decide (-1 ≤ f - 2 * r.level) && decide (f - 2 * r.level ≤ 1))) := fun f => by
      unfold standsB; rw [hrel, decide_eq_true (show (0 : Int) ≤ (k : Int) by omega), Bool.true_and]
    unfold placeT at hle n0 n1 n2 n3
    generalize floatOfInt .f64 v = X at *
    generalize floatOfInt .f64 (2 * r.level) = Y0 at *
    generalize floatOfInt .f64 (2 * r.level + 1) = Y1 at *
    generalize floatOfInt .f64 (2 * r.level - 1) = Y2 at *
    generalize floatOfInt .f64 (2 * r.level + 2) = Y3 at *
    have hr' := fun s hs => (hlv s hs).2
    have s0 := Stands_ok hr' (k : Int) X Y0 v _ x0 y0 (by omega)
    have s1 := Stands_ok hr' (k : Int) X Y1 v _ x0 y1 (by omega)
    have s2 := Stands_ok hr' (k : Int) X Y2 v _ x0 y2 (by omega)
    have s3 := Stands_ok hr' (k : Int) X Y3 v _ x0 y3 (by omega)
    rw [hsB, show (decide (0 ≤ 2 * r.level) && (decide (-1 ≤ 2 * r.level - 2 * r.level) && decide (2 * r.level - 2 * r.level ≤ 1))) = true by simp only [Bool.and_eq_true, decide_eq_true_eq]; omega] at s0
    rw [hsB, show (decide (0 ≤ 2 * r.level + 1) && (decide (-1 ≤ 2 * r.level + 1 - 2 * r.level) && decide (2 * r.level + 1 - 2 * r.level ≤ 1))) = true by simp only [Bool.and_eq_true, decide_eq_true_eq]; omega] at s1
    rw [hsB, show (decide (0 ≤ 2 * r.level - 1) && (decide (-1 ≤ 2 * r.level - 1 - 2 * r.level) && decide (2 * r.level - 1 - 2 * r.level ≤ 1))) = decide (2 * r.level > 0) by rw [Bool.eq_iff_iff]; simp only [Bool.and_eq_true, decide_eq_true_eq]; omega] at s2
    rw [hsB, show (decide (0 ≤ 2 * r.level + 2) && (decide (-1 ≤ 2 * r.level + 2 - 2 * r.level) && decide (2 * r.level + 2 - 2 * r.level ≤ 1))) = false by rw [← Bool.not_eq_true]; simp only [Bool.and_eq_true, decide_eq_true_eq]; omega] at s3
    have hcc := ccmp_same x0 y0
    have hne : ∀ b : Bool, (b != b) = false := fun b => by simp
    generalize 2 * r.level = f at *
    refine Sq.index (x := pT v f) tab_ok rfl (by omega) (hwe) rfl ?_
    repeat' (first | refine Tr.seq ?_ | refine Tr.region ?_ | refine Sq.ev tab_ok rfl rfl ?_ | refine Sq.nil ?_ | (refine Sq.guard rfl rfl (fun _ => ?_) (fun _ => ?_) <;> refine Sq.ev tab_ok rfl rfl ?_) | (refine Tr.cond rfl (fun _ => ?_) (fun _ => ?_) <;> try (rename_i h; cases h; done)) | refine Tr.block ?_ | refine Tr.skip ?_ | refine Tr.ret ⟨_, rfl, ?_⟩)
    refine Tr.drawn ( DSq.ev tab_ok rfl rfl <| DSq.ev tab_ok rfl rfl <| DSq.ev tab_ok rfl rfl <| DSq.ev tab_ok rfl rfl <| DSq.evr tab_ok rfl (congrArg int w1) <| DSq.ev tab_ok rfl rfl <| DSq.ev tab_ok rfl rfl <| DSq.ev tab_ok rfl rfl <| DSq.ev tab_ok rfl rfl <| DSq.ev tab_ok rfl rfl <| DSq.evr tab_ok rfl (congrArg int w2) <| DSq.ev tab_ok rfl rfl <| DSq.ev tab_ok rfl rfl <| DSq.ev tab_ok rfl rfl <| DSq.ev tab_ok rfl rfl <| DSq.ev tab_ok rfl rfl <| DSq.nil _) mix_ok rfl ?_
    repeat' (first | refine Tr.seq ?_ | refine Tr.region ?_ | refine Sq.ev tab_ok rfl rfl ?_ | refine Sq.nil ?_ | (refine Sq.guard rfl rfl (fun _ => ?_) (fun _ => ?_) <;> refine Sq.ev tab_ok rfl rfl ?_) | (refine Tr.cond rfl (fun _ => ?_) (fun _ => ?_) <;> try (rename_i h; cases h; done)) | refine Tr.block ?_ | refine Tr.skip ?_ | refine Tr.ret ⟨_, rfl, ?_⟩)
    refine Tr.drawn ( DSq.ev tab_ok rfl rfl <| DSq.ev tab_ok rfl rfl <| DSq.one rfl (fun q K hK => Sq.index (x := T.sc (.complex .f64 X Y0)) tab_ok rfl (by omega) (hle) rfl (Sq.nil hK)) <| DSq.ev tab_ok rfl rfl <| DSq.ev tab_ok rfl rfl <| DSq.call rfl (fun _ => rfl) (n0) <| DSq.one rfl (fun q K hK => Sq.ccmp (b := false) rfl hcc (Sq.nil hK)) <| DSq.ev tab_ok rfl rfl <| DSq.ev tab_ok rfl rfl <| DSq.ev tab_ok rfl rfl <| DSq.ev tab_ok rfl rfl <| DSq.ev tab_ok rfl rfl <| DSq.one rfl (fun q K hK => Sq.index (x := T.sc (.complex .f64 X Y0)) tab_ok rfl (by omega) (hle) rfl (Sq.nil hK)) <| DSq.ev tab_ok rfl rfl <| DSq.call rfl (fun _ => rfl) (s0) <| DSq.ev tab_ok rfl rfl <| DSq.ev tab_ok rfl rfl <| DSq.ev tab_ok rfl rfl <| DSq.ev tab_ok rfl rfl <| DSq.ev tab_ok rfl rfl <| DSq.ev tab_ok rfl rfl <| DSq.call rfl (fun _ => rfl) (n1) <| DSq.call rfl (fun _ => rfl) (s1) <| DSq.ev tab_ok rfl rfl <| DSq.ev tab_ok rfl rfl <| DSq.ev tab_ok rfl rfl <| DSq.ev tab_ok rfl rfl <| DSq.ev tab_ok rfl rfl <| DSq.ev tab_ok rfl rfl <| DSq.call rfl (fun _ => rfl) (n2) <| DSq.call rfl (fun _ => rfl) (s2) <| DSq.ev tab_ok rfl rfl <| DSq.ev tab_ok rfl rfl <| DSq.ev tab_ok rfl rfl <| DSq.evr tab_ok rfl (congrArg bool (hne (decide (f > 0)))) <| DSq.ev tab_ok rfl rfl <| DSq.ev tab_ok rfl rfl <| DSq.ev tab_ok rfl rfl <| DSq.ev tab_ok rfl rfl <| DSq.ev tab_ok rfl rfl <| DSq.call rfl (fun _ => rfl) (n3) <| DSq.call rfl (fun _ => rfl) (s3) <| DSq.ev tab_ok rfl rfl <| DSq.nil _) mix_ok rfl ?_
    repeat' (first | refine Tr.seq ?_ | refine Tr.region ?_ | refine Sq.ev tab_ok rfl rfl ?_ | refine Sq.nil ?_ | (refine Sq.guard rfl rfl (fun _ => ?_) (fun _ => ?_) <;> refine Sq.ev tab_ok rfl rfl ?_) | (refine Tr.cond rfl (fun _ => ?_) (fun _ => ?_) <;> try (rename_i h; cases h; done)) | refine Tr.block ?_ | refine Tr.skip ?_ | refine Tr.ret ⟨_, rfl, ?_⟩)
    exact ⟨k + 1, by omega, by omega, Sub.app (l := [_, _, _, _, _, _, _, _, _, _]) (H := []) ⟨rfl, rfl, rfl, rfl, rfl, rfl, rfl, rfl, rfl, congrArg some (wrapz (by omega) (by omega) (by omega)), trivial⟩ (fun κ v h => nomatch h)⟩
  · refine Tr.exit ?_
    repeat' (first | refine Tr.seq ?_ | refine Tr.region ?_ | refine Sq.ev tab_ok rfl rfl ?_ | refine Sq.nil ?_ | (refine Sq.guard rfl rfl (fun _ => ?_) (fun _ => ?_) <;> refine Sq.ev tab_ok rfl rfl ?_) | (refine Tr.cond rfl (fun _ => ?_) (fun _ => ?_) <;> try (rename_i h; cases h; done)) | refine Tr.block ?_ | refine Tr.skip ?_ | refine Tr.ret ⟨_, rfl, ?_⟩)
    rfl
end Go.Lg.Tryz

set_option linter.unusedSimpArgs false
set_option linter.unusedVariables false
namespace Go.Lg.Tryz
open Go Go.Proofs Go.Proofs.YtdjdfdfelcnpmaaGreatDoor Go.ChangeShapes Go.WideShapes Go.ChangeAt Go.RowKit Go.Joins Go.Lg.Sem

def theLaid : List (String × DataW Unit) := Rows.catalogChecksRow.laid
theorem own : ownKnob Tryz.prog.godebug = none := by kernel_rfl
theorem laidOut : laidOutB Tryz.prog = true := by kernel_rfl

/-- Go's own table as cells. -/
def firstCells : Array Value := match Go.Pinned.utf8First with
  | .agg l => (l.map fun | .lit (.int k n) => Value.int k n | _ => undef).toArray
  | _ => #[]
/-- A world that meets the condition: the heap that the door's run leaves, and the one pinned table. -/
noncomputable def laidWorld (os : Os) : World :=
  let w0 := World.doorLaid Tryz.prog 72 os
  { w0 with heap := w0.heap.modify 2 fun
      | .cells _ t frozen => .cells firstCells t frozen
      | o => o }
set_option maxRecDepth 100000 in
theorem laidWorld_met (os : Os) (args : Array Value) : laidMetH Tryz.prog theLaid ((laidWorld os).forCall (fun _ _ => 0) ⟨#[], args, []⟩).memory :=
  laidMetH_of_parts3 (fuel := 8) (laidMet_of_run' 8 (by kernel_rfl) (by kernel_rfl)) (by kernel_rfl) (by kernel_rfl)
theorem laidWorld_os (os : Os) : (laidWorld os).os = os := rfl

set_option maxRecDepth 100000 in
theorem laidWorld_shaped (os : Os) (args : Array Value) : ((laidWorld os).forCall (fun _ _ => 0) ⟨#[], args, []⟩).Shaped Tryz.prog :=
  World.shaped_of_RefB (by kernel_rfl) (by kernel_rfl)

/-- What the condition and the world's shape give. -/
theorem gw_of {W : World} (hs : W.ShapedOpen Tryz.prog) (h : laidMetH Tryz.prog theLaid W) : Gw W := by
  rw [MakeChecks.laidMetH_plain _ _ _ (by kernel_rfl)] at h
  have h2 : laidMet Tryz.prog (("internal/strconv.uint64pow10", Lib.tabData .u64 Lib.pow10Tab) :: theLaid.drop 3) W := h.tail.tail
  have ht := Lib.tabIs_of_head tab_at (t := 230) (e := 103) (n := 20) (by kernel_rfl) Tryz.underlying230 Tryz.underlying103 (by kernel_rfl) (by kernel_rfl) h2
  obtain ⟨m, hm⟩ := cell_of_shapedOpen_int (g := 4) (zero := #[.int .i64 0]) (t := 3) hs (of_decide_eq_true (by kernel_rfl)) (by kernel_rfl) rfl (by kernel_rfl) (by kernel_rfl) Tryz.underlying3
  have hbig : 8 ≤ W.heap.size := by
    have := ht
    unfold Lib.TabIs World.var? at this
    rw [tab_at, Option.bind_some] at this
    cases hb : W.heap[7]? with
    | none => rw [hb] at this; cases this
    | some o => have := (Array.getElem?_eq_some_iff.1 hb).1; omega
  have h3 : laidMet Tryz.prog (("math/bits.deBruijn64tab", Lib.tabData .u8 (Lib.deBruijn64tab.map Int.ofNat)) :: theLaid.drop 2) W := h.tail
  have hd := Lib.tabIs_of_head (g := 0) (t := 136) (e := 5) (n := 64) (by kernel_rfl) (by kernel_rfl) Tryz.underlying136 Tryz.underlying5 (by kernel_rfl) (by kernel_rfl) h3
  exact ⟨⟨m, hm⟩, ht, hbig, fun j hj => by
    have h4 := hd.cell (g := 0) (by kernel_rfl) j (by rw [List.length_map]; exact hj)
    rw [h4]
    congr 2
    simp only [List.getD_eq_getElem?_getD, List.getElem?_map, List.getElem?_eq_getElem hj, Option.map_some, Option.getD_some]; rfl⟩

/-- The kit's two ways in one: the condition's extra part and the world's shape, both handed to the contract. -/
theorem returns_both {H : Type} {enc : TypeId × Value → H} {a : Assume} {C : Checked} {os : Os} {f : FuncId} {fn : Func} {s : ChangeSpec} {conds : List PathCond} {apart fresh handsOn again : Bool} {X : World → Array Value → Prop}
    (hX : ∀ (w w' : World) (args : Array Value), w.heap = w'.heap → X w args → X w' args)
    (own : ownKnob C.prog.godebug = none) (started : os.Started) (noInit : C.prog.inits.idxOf? f = none) (hfn : C.prog.funcs[f]? = some fn)
    (witness : ∃ (w : World) (tape : Tape) (i : Input), w.os = os ∧ (w.forCall tape i).Shaped C.prog ∧ i.vars = [] ∧ Input.okWide C.prog (w.forCall tape i) .any w.heap.size f i ∧
      ((s.pre enc C.prog fn conds apart (w.forCall tape i).memory i.args ∧ X (w.forCall tape i).memory i.args) ∧ sizedMet enc C.prog fn (OpenSpec.ofChange s) apart (w.forCall tape i).memory i.args) ∧ a.holds C.prog (lone (Frame.enter C.prog f i.args .normal) [] (w.forCall tape i)))
    (contract : ∀ (W : World) (base : Nat) (args : Array Value) (ds gs : List (DataW H)) (before : List MemPlace),
      (∀ (j : Nat) t v, fn.params[j]? = some t → args[j]? = some v → Value.okWide C.prog W .any base t v) →
      DataW.Whole enc C.prog fn.params.toList s.vars apart W args.toList ds gs before →
      (DataW.weightsEach C.prog (fn.params.toList ++ s.plain.varTypes C.prog) (ds ++ gs)).all (· ≤ reachBytes) = true → X W args → W.ShapedOpen C.prog →
      Calls C.prog f args W fun e W' => ∃ v, e = .returned v ∧ s.post enc C.prog fn apart fresh handsOn again W args v W') :
    ReturnsInHanded a C os f .any (fun w args => (s.pre enc C.prog fn conds apart w args ∧ X w args) ∧ sizedMet enc C.prog fn (OpenSpec.ofChange s) apart w args) (s.post enc C.prog fn apart fresh handsOn again) := by
  refine returnsInHanded_of_calls own started noInit witness ?_
  intro w tape i _ hsh _ hok hpre hholds
  obtain ⟨_, _, _, fn', hfn', _, _, _, _, hval⟩ := hok
  obtain rfl := Option.some.inj (hfn'.symm.trans hfn)
  obtain ⟨⟨⟨ds, gs, before, hw, hc⟩, hx⟩, hz⟩ := hpre
  have hw' := DataW.Whole.of_heap (w' := w.forCall tape i) (by rfl) hw
  refine (contract (w.forCall tape i) w.heap.size i.args ds gs before hval hw' (hz.weights hw) (hX _ _ _ (by rfl) hx) hsh).mono fun e W' ⟨v, he, hp⟩ => ?_
  subst he
  exact ChangeSpec.post_blind hp
section
variable {H : Type} {enc : TypeId × Value → H} {W : World}
theorem stays {t : TypeId} (hr : (Tryz.prog).readableRec t = true) (hrow : t < (Tryz.prog).types.size) {W' : World} {v : Value} {d : DataW H} {p : List MemPlace} (h : DataW.Trod enc Tryz.prog W 0 (fun _ => true) true t v d p) (hb : Below W.heap.size W W') (hlt : ∀ x ∈ p, x.block < W.heap.size) :
    DataW.Trod enc Tryz.prog W' 0 (fun b => decide (b < W.heap.size)) true t v d p := hb.trod laidOut hr hrow h hlt
theorem opens_ver : Opens enc Tryz.prog W 75 (fun v : Ver => [.sc (.int .i64 v.a), .sc (.int .i64 v.b), .sc (.int .i64 v.c), .sc (.string v.p)]) :=
  (opens_struct Tryz.underlying75 (by kernel_rfl) (OpensF.cons rfl (k := 1) (by kernel_rfl) (opens_int Tryz.underlying3) (OpensF.cons rfl (k := 1) (by kernel_rfl) (opens_int Tryz.underlying3) (OpensF.cons rfl (k := 1) (by kernel_rfl) (opens_int Tryz.underlying3)
    (OpensF.cons rfl (k := 1) (by kernel_rfl) (opens_string Tryz.underlying9) OpensF.nil))))).map (fun p : Int × Int × Int × ByteArray × Unit => ⟨p.1, p.2.1, p.2.2.1, p.2.2.2.1⟩) (fun p => rfl)
theorem opens_verS : Opens enc Tryz.prog W 75 (fun v : {v : Ver // v.p.size < 9223372036854775808} => [.sc (.int .i64 v.1.a), .sc (.int .i64 v.1.b), .sc (.int .i64 v.1.c), .sc (.string v.1.p)]) :=
  (opens_struct Tryz.underlying75 (by kernel_rfl) (OpensF.cons rfl (k := 1) (by kernel_rfl) (opens_int Tryz.underlying3) (OpensF.cons rfl (k := 1) (by kernel_rfl) (opens_int Tryz.underlying3) (OpensF.cons rfl (k := 1) (by kernel_rfl) (opens_int Tryz.underlying3)
    (OpensF.cons rfl (k := 1) (by kernel_rfl) (opens_stringS Tryz.underlying9) OpensF.nil))))).map (fun p : Int × Int × Int × {s : ByteArray // s.size < 9223372036854775808} × Unit => ⟨⟨p.1, p.2.1, p.2.2.1, p.2.2.2.1.1⟩, p.2.2.2.1.2⟩) (fun p => rfl)
theorem opens_comp : Opens enc Tryz.prog W 86 (fun c : Cmp => [.sc (.int .i64 c.op), .sc (.int .i64 c.v.a), .sc (.int .i64 c.v.b), .sc (.int .i64 c.v.c), .sc (.string c.v.p)]) :=
  (opens_struct Tryz.underlying86 (by kernel_rfl) (OpensF.cons rfl (k := 1) (by kernel_rfl) (opens_int Tryz.underlying3) (OpensF.cons rfl (k := 4) (by kernel_rfl) opens_ver OpensF.nil))).map (fun p : Int × Ver × Unit => ⟨p.1, p.2.1⟩) (fun p => rfl)
noncomputable instance : Inhabited Cmp := ⟨Cmp.zero⟩
theorem opens_comps : Opens enc Tryz.prog W 84 (fun l : List Cmp => [cmpsT l]) :=
  opens_slice Cmp.t (fun c => rfl) Tryz.underlying84 (fun c => by rw [show (Tryz.prog).cellsOf 86 = 5 by kernel_rfl]; rfl) (by rw [show (Tryz.prog).cellsOf 86 = 5 by kernel_rfl]; omega) opens_comp
theorem opens_rng : Opens enc Tryz.prog W 81 (fun r : Rng => [.ls (r.map cmpsT)]) :=
  (opens_struct Tryz.underlying81 (by kernel_rfl) (OpensF.cons rfl (k := 1) (by kernel_rfl) (opens_slice cmpsT (fun l => rfl) Tryz.underlying79 (fun c => by rw [show (Tryz.prog).cellsOf 84 = 1 by kernel_rfl]; rfl) (by rw [show (Tryz.prog).cellsOf 84 = 1 by kernel_rfl]; omega) opens_comps) OpensF.nil)).map
    (fun p : Rng × Unit => p.1) (fun p => rfl)
end
end Go.Lg.Tryz

set_option linter.unusedSimpArgs false
set_option linter.unusedVariables false
namespace Go.Lg.Tryz
open Go Go.Proofs Go.Proofs.YtdjdfdfelcnpmaaGreatDoor Go.ChangeShapes Go.WideShapes Go.ChangeAt Go.RowKit Go.Joins Go.Lg.Sem
section
variable {H : Type} {enc : TypeId × Value → H} {W : World}
noncomputable instance : Inhabited Nd := ⟨⟨0, []⟩⟩
noncomputable instance : Inhabited Rls := ⟨⟨Cmp.zero.v, 0, []⟩⟩
noncomputable instance : Inhabited Svc := ⟨⟨ByteArray.empty, []⟩⟩
theorem opens_nd : Opens enc Tryz.prog W 83 (fun n : Nd => [.sc (.int .i64 n.s), .ls (n.r.map cmpsT)]) :=
  (opens_struct Tryz.underlying83 (by kernel_rfl) (OpensF.cons rfl (k := 1) (by kernel_rfl) (opens_int Tryz.underlying3) (OpensF.cons rfl (k := 1) (by kernel_rfl) opens_rng OpensF.nil))).map (fun p : Int × Rng × Unit => ⟨p.1, p.2.1⟩) (fun p => rfl)
theorem opens_nds : Opens enc Tryz.prog W 76 (fun l : List Nd => [.ls (l.map ndT)]) :=
  opens_slice ndT (fun c => rfl) Tryz.underlying76 (fun c => by rw [show (Tryz.prog).cellsOf 83 = 2 by kernel_rfl]; rfl) (by rw [show (Tryz.prog).cellsOf 83 = 2 by kernel_rfl]; omega) opens_nd
theorem opens_rls : Opens enc Tryz.prog W 78 (fun r : Rls => [.sc (.int .i64 r.v.a), .sc (.int .i64 r.v.b), .sc (.int .i64 r.v.c), .sc (.string r.v.p), .sc (.int .i64 r.level), .ls (r.needs.map ndT)]) :=
  (opens_struct Tryz.underlying78 (by kernel_rfl) (OpensF.cons rfl (k := 4) (by kernel_rfl) opens_ver (OpensF.cons rfl (k := 1) (by kernel_rfl) (opens_int Tryz.underlying3) (OpensF.cons rfl (k := 1) (by kernel_rfl) opens_nds OpensF.nil)))).map (fun p : Ver × Int × List Nd × Unit => ⟨p.1, p.2.1, p.2.2.1⟩) (fun p => rfl)
theorem opens_rlss : Opens enc Tryz.prog W 70 (fun l : List Rls => [.ls (l.map rlsT)]) :=
  opens_slice rlsT (fun c => rfl) Tryz.underlying70 (fun c => by rw [show (Tryz.prog).cellsOf 78 = 6 by kernel_rfl]; rfl) (by rw [show (Tryz.prog).cellsOf 78 = 6 by kernel_rfl]; omega) opens_rls
theorem opens_svc : Opens enc Tryz.prog W 72 (fun s : Svc => [.sc (.string s.name), .ls (s.rels.map rlsT)]) :=
  (opens_struct Tryz.underlying72 (by kernel_rfl) (OpensF.cons rfl (k := 1) (by kernel_rfl) (opens_string Tryz.underlying9) (OpensF.cons rfl (k := 1) (by kernel_rfl) opens_rlss OpensF.nil))).map (fun p : ByteArray × List Rls × Unit => ⟨p.1, p.2.1⟩) (fun p => rfl)
theorem opens_cat : Opens enc Tryz.prog W 24 (fun c : Ctl => [.ls (c.map svcT)]) :=
  (opens_struct Tryz.underlying24 (by kernel_rfl) (OpensF.cons rfl (k := 1) (by kernel_rfl) (opens_slice svcT (fun c => rfl) Tryz.underlying22 (fun c => by rw [show (Tryz.prog).cellsOf 72 = 2 by kernel_rfl]; rfl) (by rw [show (Tryz.prog).cellsOf 72 = 2 by kernel_rfl]; omega) opens_svc) OpensF.nil)).map (fun p : Ctl × Unit => p.1) (fun p => rfl)
theorem opens_ints : Opens enc Tryz.prog W 45 (fun l : List Int => [.ls (l.map fun v => .sc (.int .i64 v))]) :=
  opens_slice (fun v : Int => T.sc (.int .i64 v)) (fun c => rfl) Tryz.underlying45 (fun c => by rw [show (Tryz.prog).cellsOf 3 = 1 by kernel_rfl]; rfl) (by rw [show (Tryz.prog).cellsOf 3 = 1 by kernel_rfl]; omega) (opens_int Tryz.underlying3)
end
end Go.Lg.Tryz
