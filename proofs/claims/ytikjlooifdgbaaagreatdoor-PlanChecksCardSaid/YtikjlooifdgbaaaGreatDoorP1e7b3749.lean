/- Words and laws that the theorem leans on (part 5). -/
import Derived.Test.YtikjlooifdgbaaaGreatDoorP11355698
import Derived.Test.YtikjlooifdgbaaaGreatDoorP49b084f4
import Derived.Test.YtikjlooifdgbaaaGreatDoorP5fca0e50
import Derived.Test.YtikjlooifdgbaaaGreatDoorP3782a6b2
import Derived.Lib.TrailingZeros
import Derived.Laws.Cover3
import Derived.Laws.FloatArith
import Derived.Laws.Externs
set_option linter.unusedVariables false
set_option linter.unusedSimpArgs false

set_option linter.unusedVariables false
set_option linter.unusedSimpArgs false
namespace Go.Lg
open Go Go.RowKit
section
variable {P : Program} {G : Env} {n : Nat} {tab : Tab} {m : Store}
def evLit0 (tab : Tab) (n : Nat) (ops : List Oper) (o : Oper) (m : Store) : Option (TypeId × Nat) := match o.op, o.dst, gOk m ops o.guard with
  | .buildSlice t 0 ⟨[]⟩, some d, true => match Nat.blt d n, tlk tab t with
    | true, some ⟨_, _, .slice e, _⟩ => match tlk tab e with
      | some _ => some (e, d)
      | none => none
    | _, _ => none
  | _, _, _ => none
theorem Sq.lit0R {ops l : List Oper} {o : Oper} {e : TypeId} {d : Nat} {K : Store → Prop} (hT : TabOk P tab) (h : evLit0 tab n ops o m = some (e, d)) (k : Sq P G n ops l ((.s d, .raw e true []) :: m) K) : Sq P G n ops (o :: l) m K := by
  obtain ⟨dst, op, type, pos, after, guard⟩ := o
  unfold evLit0 at h
  simp only at h
  split at h
  · rename_i t d' hgd
    split at h
    · rename_i e' _ hlt ht
      split at h
      · rename_i de he
        simp only [Option.some.injEq, Prod.mk.injEq] at h
        obtain ⟨rfl, rfl⟩ := h
        refine Sq.do hgd (fun Γ M Ow a w hr => ?_) k
        obtain ⟨ie, hie, hsz, _⟩ := hT.info he
        have hu := hT.slice ht rfl
        refine ⟨.slice (some ⟨w.heap.size, 0, none⟩) 0 0, w.alloc (.cells #[] e'), ?_, ?_⟩
        · have := run_buildSlice0 (P := P) (w := w) (parts := #[]) hu hie rfl
          have e0 : Array.map (fun (x : Nat × Operand) => (x.1, a.eval x.2)) ⟨[]⟩ = #[] := by simp
          simp only [execOp]
          rw [Sem.run_bind, e0, this]
          rfl
        · have := putraw_new (z := true) (cap := 0) (xs := []) hr (Nat.lt_of_succ_le (Nat.le_of_ble_eq_true hlt)) hie (below_alloc w (.cells #[] e')) (alloc_at w _) (by simp) (by simp) (by simp) (by simp) (by simp)
          simpa using this
      · cases h
    · cases h
  · cases h
def evAppR (tab : Tab) (n : Nat) (ops : List Oper) (o : Oper) (m : Store) : Option (TypeId × Nat × Nat × Bool × List T × List T × Nat) := match o.op, o.dst, gOk m ops o.guard with
  | .call ⟨.builtin .append, ⟨[x, y]⟩, ⟨[t, t']⟩⟩, some d, true => match Nat.blt d n, Nat.beq t t', tlk tab t with
    | true, true, some ⟨_, _, .slice e, _⟩ => match tlk tab e, opV m y with
      | some ⟨es, by', _, zs⟩, some yv => match Nat.beq zs.length es, Nat.ble 1 es, Nat.ble by' 131072, Nat.ble 1 by', lsOf yv with
        | true, true, true, true, some ys => match x with
          | .tmp s => match lk m (.s s) with
            | some (.raw e' z xs) => match Nat.beq e' e with
              | true => some (e, es, s, z, xs, ys, d)
              | false => none
            | _ => none
          | .const (.slice none 0 0) => some (e, es, d, true, [], ys, d)
          | _ => none
        | _, _, _, _, _ => none
      | _, _ => none
    | _, _, _ => none
  | _, _, _ => none
theorem Sq.appendR {ops l : List Oper} {o : Oper} {e es s d : Nat} {z : Bool} {xs ys : List T} {K : Store → Prop} (hT : TabOk P tab) (h : evAppR tab n ops o m = some (e, es, s, z, xs, ys, d)) (hys : ∀ y, y ∈ ys → y.cells.length = es) (hlen : xs.length + ys.length ≤ 1073741824)
    (k : Sq P G n ops l ((.s d, .raw e z (xs ++ ys)) :: (.s s, .unk) :: m) K) : Sq P G n ops (o :: l) m K := by
  obtain ⟨dst, op, type, pos, after, guard⟩ := o
  unfold evAppR at h
  simp only at h
  split at h
  · rename_i x y t t' d' hgd
    split at h
    · rename_i e0 _ hlt htt ht
      split at h
      · rename_i es' by' kd zs yv he hyv
        split at h
        · rename_i ys' hz1 hz2 hz3 hz4 hls
          obtain rfl : t = t' := Nat.eq_of_beq_eq_true htt
          have hd : d' < n := Nat.lt_of_succ_le (Nat.le_of_ble_eq_true hlt)
          have hzl : zs.length = es' := Nat.eq_of_beq_eq_true hz1
          have hpos : 0 < es' := Nat.le_of_ble_eq_true hz2
          have hby : by' ≤ 131072 := Nat.le_of_ble_eq_true hz3
          have fin : ∀ {s0 : Nat} {z0 : Bool} {xs0 : List T}, (e0, es', s0, z0, xs0, ys', d') = (e, es, s, z, xs, ys, d) → (∀ (a : Act), ((lk m (.s s0) = some (.raw e0 z0 xs0) ∧ a.eval x = a.tmps.getD s0 undef) ∨ (xs0 = [] ∧ a.eval x = .slice none 0 0))) → Sq P G n ops (⟨some d', .call ⟨.builtin .append, ⟨[x, y]⟩, ⟨[t, t]⟩⟩, type, pos, after, guard⟩ :: l) m K := by
            intro s0 z0 xs0 heq hb
            simp only [Prod.mk.injEq] at heq
            obtain ⟨rfl, rfl, rfl, rfl, rfl, rfl, rfl⟩ := heq
            refine Sq.do hgd (fun Γ M Ow a w hr => ?_) k
            obtain ⟨q, hq⟩ := opV_ok hyv hr
            have hq := deg_vrel hq
            rw [lsOf_eq hls] at hq
            have hrep : Rep w M (.ls ys') (a.eval y) := by cases hq with | tr _ _ h => exact h
            have hb' : (xs0.length + ys'.length) * by' ≤ 140737488355328 := by
              have := Nat.mul_le_mul hlen hby
              omega
            obtain ⟨ie, hie, _⟩ := hT.info he
            have hbase : ∃ o, RawRel P w M e0 z0 xs0 (a.eval x) o ∧ ∀ b, o = some b → Ow (.s s0) 0 = some b := by
              rcases hb a with ⟨h1, h2⟩ | ⟨rfl, h2⟩
              · rw [h2]; exact ⟨_, hr.slot s0 _ h1, fun b hb => hb⟩
              · rw [h2]; exact ⟨none, ⟨ie, hie, (fun x hx => nomatch hx), .inl ⟨rfl, none, rfl⟩⟩, fun b hb => nomatch hb⟩
            obtain ⟨v, w', h1, h2⟩ := appendR_run hT hr (dt := _) (de := ⟨es', by', kd, zs⟩) ht rfl he hpos hzl hd (ty := type) hbase hrep hys hb' (by omega)
            refine ⟨v, w', ?_, h2⟩
            simp [execOp, resolve, invoke, builtin, h1]
          split at h
          · rename_i s0
            split at h
            · rename_i e' z0 xs0 hs0
              split at h
              · rename_i hee
                obtain rfl : e' = e0 := Nat.eq_of_beq_eq_true hee
                exact fin (Option.some.inj h) (fun a => .inl ⟨hs0, rfl⟩)
              · cases h
            · cases h
          · exact fin (Option.some.inj h) (fun a => .inr ⟨rfl, rfl⟩)
          · cases h
        · cases h
      · cases h
    · cases h
  · cases h
def evPartO (tab : Tab) (n : Nat) (ops : List Oper) (o : Oper) (m : Store) : Option (Nat × AV × Bd × Bd × Nat) := match o.op, o.dst, gOk m ops o.guard with
  | .slice t (.tmp s) lo hi none, some d, true => match Nat.blt d n, tlk tab t with
    | true, some ⟨_, _, .slice e, _⟩ => match tlk tab e, lk m (.s s), bdO m lo, bdO m hi with
      | some _, some (.own e' xs), some l, some h => match Nat.beq e' e with
        | true => some (s, .own e xs, l, h, d)
        | false => none
      | some _, some (.raw e' z xs), some l, some h => match Nat.beq e' e with
        | true => some (s, .raw e z xs, l, h, d)
        | false => none
      | _, _, _, _ => none
    | _, _ => none
  | _, _, _ => none
theorem RawRel.part {w : World} {M : Nat → Nat → Prop} {e : TypeId} {z : Bool} {xs : List T} {ad : Option Addr} {q cap : Nat} {o : Option Nat} (h : RawRel P w M e z xs (.slice ad q cap) o) {ie : TypeInfo} (hie : P.info? e = some ie) {l hi : Nat} (hl : l ≤ hi) (hhi : hi ≤ xs.length) :
    RawRel P w M e (z && l == 0) ((xs.drop l).take (hi - l)) (.slice (if cap = l then ad else ad.map (·.add (l * ie.size))) (hi - l) (cap - l)) o := by
  obtain ⟨i, hi1, hx, h⟩ := h
  obtain rfl : i = ie := by rw [hie] at hi1; exact (Option.some.inj hi1).symm
  refine ⟨i, hie, fun x hm => hx x (List.mem_of_mem_drop (List.mem_of_mem_take hm)), ?_⟩
  rcases h with ⟨rfl, ad0, e1⟩ | ⟨b, off, c, cs, rfl, e1, hz, hh, hs, hzs, hc, hn, h1, hr⟩
  · injection e1 with e1 e2 e3
    subst e1; subst e2; subst e3
    simp at hhi; subst hhi
    obtain rfl : l = 0 := by omega
    exact .inl ⟨by simp, ad, by simp⟩
  · injection e1 with e1 e2 e3
    subst e1; subst e3
    have hlen : ((xs.drop l).take (hi - l)).length = hi - l := by simp; omega
    by_cases ec : cap = l
    · rw [if_pos ec]
      have : hi - l = 0 := by omega
      exact .inl ⟨List.eq_nil_of_length_eq_zero (by omega), some ⟨b, off, none⟩, by rw [this]; congr 1; omega⟩
    · rw [if_neg ec]
      have e2 : l * i.size + (cap - l) * i.size = cap * i.size := by rw [← Nat.add_mul]; congr 1; omega
      refine .inr ⟨b, off + l * i.size, cap - l, cs, rfl, ?_, ?_, hh, by omega, ?_, by omega, hn, h1, ?_⟩
      · rw [hlen]; simp only [Option.map_some, add_lit]
      · intro h
        rw [Bool.and_eq_true, beq_iff_eq] at h
        rw [h.2, hz h.1]; simp
      · intro h
        rw [Bool.and_eq_true, beq_iff_eq] at h
        rw [h.2]; exact hzs h.1
      · intro i' j x y hx hy
        rw [List.getElem?_take] at hx
        split at hx
        · rw [List.getElem?_drop] at hx
          obtain ⟨u, hu, hru⟩ := hr (l + i') j x y hx hy
          refine ⟨u, ?_, hru⟩
          rw [Nat.add_mul] at hu
          rw [show off + l * i.size + i' * i.size + j = off + (l * i.size + i' * i.size) + j by omega]; exact hu
        · cases hx
theorem OwnRel.tail {w : World} {M : Nat → Nat → Prop} {e : TypeId} {xs : List T} {ad : Option Addr} {q cap : Nat} {o : Option Nat} (h : OwnRel P w M e xs (.slice ad q cap) o) {ie : TypeInfo} (hie : P.info? e = some ie) {l : Nat} (hl : l ≤ xs.length) :
    OwnRel P w M e (xs.drop l) (.slice (if cap = l then ad else ad.map (·.add (l * ie.size))) (xs.length - l) (cap - l)) o := by
  obtain ⟨i, hi1, hx, h⟩ := h
  obtain rfl : i = ie := by rw [hie] at hi1; exact (Option.some.inj hi1).symm
  refine ⟨i, hie, fun x hm => hx x (List.mem_of_mem_drop hm), ?_⟩
  rcases h with ⟨rfl, ad0, e1⟩ | ⟨b, off, c, cs, rfl, e1, hrep, hh, hs, hc, hn, h1⟩
  · injection e1 with e1 e2 e3
    subst e1; subst e2; subst e3
    simp at hl; subst hl
    exact .inl ⟨by simp, ad, by simp⟩
  · injection e1 with e1 e2 e3
    subst e1; subst e3; subst e2
    have hpart := hrep.part (es := i.size) (l := l) (hi := xs.length) hx hl (Nat.le_refl _)
    rw [show (xs.drop l).take (xs.length - l) = xs.drop l by rw [List.take_of_length_le (by simp)]] at hpart
    by_cases ec : cap = l
    · rw [if_pos ec]
      have : xs.length - l = 0 := by omega
      exact .inl ⟨List.eq_nil_of_length_eq_zero (by simp; omega), some ⟨b, off, none⟩, by rw [this]; congr 1; omega⟩
    · rw [if_neg ec] at hpart ⊢
      have e2 : l * i.size + (cap - l) * i.size = cap * i.size := by rw [← Nat.add_mul]; congr 1; omega
      have e3 : l * i.size + (xs.length - l) * i.size = xs.length * i.size := by rw [← Nat.add_mul]; congr 1; omega
      simp only [Option.map_some, add_lit] at hpart ⊢
      refine .inr ⟨b, off + l * i.size, cap - l, cs, rfl, by rw [List.length_drop], hpart, hh, by omega, by rw [List.length_drop]; omega, fun k hk => ?_, h1⟩
      rw [List.length_drop] at hk
      exact hn k (by omega)
theorem Rel.swap {Γ : Ctx} {M : Nat → Nat → Prop} {Ow : Loc → Nat → Option Nat} {a : Act} {w : World} (hr : Rel P Γ M Ow n m a w) {s d : Nat} (hd : d < n) {x : AV} (hx : x.isOwn = true) {cv : Value} (hv : SRel P w M Ow x cv (Ow (.s s) 0)) :
    RelX P Γ n ((.s d, x) :: (.s s, .unk) :: m) (a.put (some d) cv) w :=
  ⟨_, _, (hr.forget s).putv hd (o := Ow (.s s) 0) (own_any hx hv) (own_refs hx) (fun b hb => hr.forget_free hb)⟩
def evTake (n : Nat) (ops : List Oper) (o : Oper) (m : Store) : Option (Nat × AV × Nat) := match o.op, o.dst, gOk m ops o.guard with
  | .move (.tmp s), some d, true => match Nat.blt d n, lk m (.s s) with
    | true, some x => match x.isOwn with
      | true => some (s, x, d)
      | false => none
    | _, _ => none
  | _, _, _ => none
theorem Sq.take {ops l : List Oper} {o : Oper} {s d : Nat} {x : AV} {K : Store → Prop} (h : evTake n ops o m = some (s, x, d)) (k : Sq P G n ops l ((.s d, x) :: (.s s, x.deg) :: m) K) : Sq P G n ops (o :: l) m K := by
  obtain ⟨dst, op, type, pos, after, guard⟩ := o
  unfold evTake at h
  simp only at h
  split at h
  · rename_i s0 d' hgd
    split at h
    · rename_i x0 hlt hx
      split at h
      · rename_i hown
        simp only [Option.some.injEq, Prod.mk.injEq] at h
        obtain ⟨rfl, rfl, rfl⟩ := h
        refine Sq.do hgd (fun Γ M Ow a w hr => ?_) k
        obtain ⟨Ow', h'⟩ := hr.take (Nat.lt_of_succ_le (Nat.le_of_ble_eq_true hlt)) hown hx
        exact ⟨a.eval (.tmp s0), w, rfl, M, Ow', h'⟩
      · cases h
    · cases h
  · cases h
theorem Sq.tailO {ops l : List Oper} {o : Oper} {e : TypeId} {xs : List T} {s d : Nat} {lo : Bd} {K : Store → Prop} (hT : TabOk P tab) (h : evPartO tab n ops o m = some (s, .own e xs, lo, .no, d))
    (h0 : 0 ≤ lo.lo) (h1 : lo.lo ≤ xs.length)
    (k : Sq P G n ops l ((.s d, .own e (xs.drop lo.lo.toNat)) :: (.s s, .unk) :: m) K) : Sq P G n ops (o :: l) m K := by
  obtain ⟨dst, op, type, pos, after, guard⟩ := o
  unfold evPartO at h
  simp only at h
  split at h
  · rename_i t s0 lo' hi' d' hgd
    split at h
    · rename_i e0 _ hlt ht
      split at h
      · rename_i de e' xs' l' h' he hx hlo hhi
        split at h
        · rename_i hee
          obtain rfl : e' = e0 := Nat.eq_of_beq_eq_true hee
          simp only [Option.some.injEq, Prod.mk.injEq, AV.own.injEq] at h
          obtain ⟨rfl, ⟨rfl, rfl⟩, rfl, rfl, rfl⟩ := h
          refine Sq.do hgd (fun Γ M Ow a w hr => ?_) k
          have hu := hT.slice ht rfl
          obtain ⟨ie, hie, hsz, _⟩ := hT.info he
          have hown : OwnRel P w M e' xs' (a.tmps.getD s0 undef) (Ow (.s s0) 0) := hr.slot s0 _ hx
          obtain ⟨ad, cap, e1, hcap⟩ : ∃ ad cap, a.tmps.getD s0 undef = .slice ad xs'.length cap ∧ xs'.length ≤ cap := by
            obtain ⟨_, _, _, ⟨rfl, ad, e1⟩ | ⟨b, off, cap, cs, _, e1, _, _, _, hc, _⟩⟩ := hown
            · exact ⟨ad, 0, e1, Nat.le_refl _⟩
            · exact ⟨_, cap, e1, hc⟩
          have ex : a.eval (.tmp s0) = .slice ad xs'.length cap := e1
          rw [e1] at hown
          have hb := run_bounds (P := P) (w := w) (isSlice := true) (q := xs'.length) (cap := cap) (bdO_ok hlo hr) (bdO_ok hhi hr) h0 (by simpa [Bd.hi] using h1) (by simp [Bd.hi]; omega) hcap
          have hpart := hown.tail hie (l := l'.lo.toNat) (by omega)
          refine ⟨_, w, ?_, hr.swap (Nat.lt_of_succ_le (Nat.le_of_ble_eq_true hlt)) (x := .own _ _) rfl hpart⟩
          simp [execOp, Instr.sliceAt, Instr.slice, ex, run_underlying hu, hb, sizeOf, typeInfo, hie, Bd.hi]
        · cases h
      · split at h <;> first | (cases h; done) | (injection h with h; injection h with h1 h; injection h with h2 h; cases h2)
      · cases h
    · cases h
  · cases h
def evIdxAE (tab : Tab) (n : Nat) (ops : List Oper) (o : Oper) (m : Store) : Option (List T × Nat × Nat × Nat × Int × Nat) := match o.op, o.dst, gOk m ops o.guard with
  | .indexAddr t x i, some d, true => match Nat.blt d n, tlk tab t with
    | true, some ⟨_, _, .array len e, _⟩ => match tlk tab e, opV m x, opV m i with
      | some ⟨es, _, _, _⟩, some (.ep cs off), some (.tr (.sc (.int _ j))) => some (cs, off, len, es, j, d)
      | _, _, _ => none
    | _, _ => none
  | _, _, _ => none
theorem Sq.indexAE {ops l : List Oper} {o : Oper} {cs : List T} {off len es d : Nat} {j : Int} {K : Store → Prop} (hT : TabOk P tab) (h : evIdxAE tab n ops o m = some (cs, off, len, es, j, d)) (h0 : 0 ≤ j) (hj : j < len)
    (k : Sq P G n ops l ((.s d, .ep cs (off + j.toNat * es)) :: m) K) : Sq P G n ops (o :: l) m K := by
  obtain ⟨dst, op, type, pos, after, guard⟩ := o
  unfold evIdxAE at h
  simp only at h
  split at h
  · rename_i t ox oi d' hgd
    split at h
    · rename_i len0 e _ hlt ht
      split at h
      · rename_i es' _ _ _ cs' off' ik j' he hv hi
        simp only [Option.some.injEq, Prod.mk.injEq] at h
        obtain ⟨rfl, rfl, rfl, rfl, rfl, rfl⟩ := h
        refine Sq.do hgd (fun Γ M Ow a w hr => ?_) k
        obtain ⟨q1, hq1⟩ := opV_ok hv hr
        obtain ⟨q2, hq2⟩ := opV_ok hi hr
        have e2 := (sc_eval (Γ := Γ) hq2).1
        have hq1 : VRel w M (fun κ => Ow κ 0) (.ep cs' off') (a.eval ox) := hq1
        obtain ⟨ie, hie, hsz, _⟩ := hT.info he
        have hsz : ie.size = es' := hsz
        have hu := hT.array ht rfl
        have hin : 0 ≤ j' ∧ j' < (len0 : Int) := ⟨h0, hj⟩
        generalize hq : a.eval ox = q at hq1
        cases hq1 with
        | ep _ _ b ob f c1 c2 c3 c4 =>
          refine ⟨.pointer (some ⟨b, ob + (off' + j'.toNat * es'), none⟩), w, ?_, M, Ow, hr.put (Nat.lt_of_succ_le (Nat.le_of_ble_eq_true hlt)) (.ep _ _ b ob f c1 c2 c3 c4)⟩
          simp [execOp, hq, e2, Instr.indexAt, asIntOf, run_underlying hu, hin, sizeOf, typeInfo, hie, hsz, add_lit, Instr.sureAddr, Nat.add_assoc]
      · cases h
    · cases h
  · cases h
theorem Tr.scopeS {ι : Type} {c rest : Code} {Q : Exit → Store → Prop} (l : Nat) (hf : findLabel c l = some (.seq .skip rest)) (S : ι → Store) (μ : ι → Nat) (inv : ι → Prop)
    (first : Tr P G n c m (jumpQ l (fun m' => ∃ i, inv i ∧ Sub (S i) m') Q))
    (pass : ∀ i, inv i → Tr P G n rest (S i) (jumpQ l (fun m' => ∃ j, inv j ∧ μ j < μ i ∧ Sub (S j) m') Q)) : Tr P G n (.scope c) m Q :=
  Tr.scope l hf S μ inv first (fun i hi => zS (zK (pass i hi)))
end
end Go.Lg

set_option linter.unusedVariables false
set_option linter.unusedSimpArgs false
namespace Go.Lg.Sem
open Go
def rdy (A : List (BitVec 64)) (set : BitVec 64) (i : Nat) : Bool := match A[i]? with
  | some a => readyB a set i
  | none => false
theorem ready_bit (A : List (BitVec 64)) (set : BitVec 64) : ∀ (k i : Nat), k ≤ 64 → (readyUp A set k).getLsbD i = (decide (i < k) && rdy A set i)
  | 0, i, _ => by simp [readyUp]
  | k + 1, i, h => by
    have ih := ready_bit A set k i (by omega)
    have hb : (1#64 <<< k).getLsbD i = decide (i = k) := by
      rw [BitVec.getLsbD_shiftLeft, BitVec.getLsbD_one]
      by_cases e : i = k
      · subst e; simp; omega
      · simp [e]; omega
    unfold readyUp
    unfold rdy at *
    by_cases e : i = k
    · subst e
      cases hA : A[i]? with
      | none => simp only; rw [ih, hA]; simp
      | some a =>
        simp only
        cases hr : readyB a set i
        · simp only [Bool.false_eq_true, if_false]; rw [ih]; simp
        · simp only [if_true, BitVec.getLsbD_or]; rw [ih, hb]; simp
    · have e1 : decide (i < k + 1) = decide (i < k) := by
        rw [Bool.eq_iff_iff, decide_eq_true_eq, decide_eq_true_eq]; omega
      rw [e1]
      cases hA : A[k]? with
      | none => simp only; exact ih
      | some a =>
        simp only
        split
        · rw [BitVec.getLsbD_or, ih, hb]; simp [e]
        · exact ih
end Go.Lg.Sem

set_option linter.unusedVariables false
set_option linter.unusedSimpArgs false
namespace Go.Lg.Sem
open Go
theorem snoc_ind {α : Type} {P : List α → Prop} (h0 : P []) (h1 : ∀ l x, P l → P (l ++ [x])) : ∀ l, P l := fun l => by
  have : ∀ r : List α, P r.reverse := by
    intro r
    induction r with
    | nil => exact h0
    | cons x r ih => rw [List.reverse_cons]; exact h1 _ _ ih
  simpa using this l.reverse
theorem ahead_bit (n : Nat) (hn : n ≤ 64) : ∀ (es : List (Nat × Nat)), (∀ p, p ∈ es → p.1 < n ∧ p.2 < n) → ∀ (i : Nat) (a : BitVec 64), (aheadV n es)[i]? = some a → ∀ j, a.getLsbD j = es.any (fun p => p.2 == i && p.1 == j) := by
  intro es
  refine snoc_ind (P := fun es => (∀ p, p ∈ es → p.1 < n ∧ p.2 < n) → ∀ (i : Nat) (a : BitVec 64), (aheadV n es)[i]? = some a → ∀ j, a.getLsbD j = es.any (fun p => p.2 == i && p.1 == j)) ?_ ?_ es
  · intro _ i a ha j
    unfold aheadV at ha
    simp only [List.foldl_nil] at ha
    have : a = 0 := by
      have := List.mem_of_getElem? ha
      exact List.eq_of_mem_replicate this
    subst this; simp
  · intro es p ih hp i a ha j
    obtain ⟨h1, h2⟩ := hp p (by simp)
    have ih := ih (fun x hx => hp x (by simp [hx]))
    have e : aheadV n (es ++ [p]) = stepA (aheadV n es) p := by unfold aheadV; rw [List.foldl_append]; rfl
    have hl := ahead_len n es
    rw [e] at ha
    unfold stepA at ha
    rw [List.any_append]
    by_cases hi : p.2 = i
    · subst hi
      rw [List.getElem?_set_self (by omega)] at ha
      obtain rfl := Option.some.inj ha
      obtain ⟨b, hb⟩ : ∃ b, (aheadV n es)[p.2]? = some b := ⟨_, List.getElem?_eq_getElem (by omega)⟩
      rw [List.getD_eq_getElem?_getD, hb, Option.getD_some, BitVec.getLsbD_or, ih _ b hb j, BitVec.getLsbD_shiftLeft, BitVec.getLsbD_one]
      congr 1
      by_cases hj : p.1 = j
      · subst hj; simp; omega
      · have : ¬ (j - p.1 = 0 ∧ p.1 ≤ j ∧ j ≤ p.1) := by omega
        by_cases hlt : j < p.1
        · simp [hj, hlt]
        · have h0 : j - p.1 ≠ 0 := by omega
          simp [hj, h0]
    · rw [List.getElem?_set_ne hi] at ha
      rw [ih i a ha j]
      simp [hi]
end Go.Lg.Sem

set_option linter.unusedVariables false
set_option linter.unusedSimpArgs false
namespace Go.Lg.Sem
open Go
theorem ctz_bit (x : BitVec 64) (h : x ≠ 0#64) : x.getLsbD (Lib.ctz 64 x.toNat) = true ∧ Lib.ctz 64 x.toNat < 64 := by
  have h0 : x.toNat ≠ 0 := fun e => h (BitVec.eq_of_toNat_eq (by simpa using e))
  have hlt : x.toNat < 2 ^ 64 := x.isLt
  obtain ⟨m, hm, hc⟩ := Lib.ctzFrom_spec 64 x.toNat (by omega) hlt
  have e : Lib.ctz 64 x.toNat = Lib.ctzFrom 64 x.toNat := by unfold Lib.ctz; rw [if_neg h0]
  rw [e]
  generalize Lib.ctzFrom 64 x.toNat = c at *
  refine ⟨?_, hc⟩
  rw [BitVec.getLsbD, hm, Nat.testBit_eq_decide_div_mod_eq, Nat.mul_div_cancel_left _ (Nat.two_pow_pos c)]
  simp
structure OrdI (n : Nat) (es : List (Nat × Nat)) (out : List Nat) (set : BitVec 64) : Prop where
  nodup : out.Nodup
  lt : ∀ i, i ∈ out → i < n
  bits : ∀ i, set.getLsbD i = decide (i ∈ out)
  need : ∀ (k i : Nat), out[k]? = some i → ∀ j, (j, i) ∈ es → j ∈ out.take k
theorem OrdI.zero (n : Nat) (es : List (Nat × Nat)) : OrdI n es [] 0#64 := ⟨List.nodup_nil, fun i h => (nomatch h), fun i => by simp, fun k i h => by simp at h⟩
theorem rdy_iff {n : Nat} {es : List (Nat × Nat)} {out : List Nat} {set : BitVec 64} (h : OrdI n es out set) (hn : n ≤ 64) (hp : ∀ p, p ∈ es → p.1 < n ∧ p.2 < n) {i : Nat} (hi : i < n) :
    rdy (aheadV n es) set i = true ↔ i ∉ out ∧ ∀ j, (j, i) ∈ es → j ∈ out := by
  obtain ⟨a, ha⟩ : ∃ a, (aheadV n es)[i]? = some a := ⟨_, List.getElem?_eq_getElem (by rw [ahead_len]; exact hi)⟩
  have hb := ahead_bit n hn es hp i a ha
  unfold rdy
  rw [ha]
  simp only
  unfold readyB
  rw [Bool.and_eq_true, beq_iff_eq, beq_iff_eq]
  refine and_congr ?_ ?_
  · have hbi := h.bits i
    constructor
    · intro h0 hm
      rw [decide_eq_true hm] at hbi
      have : (set >>> i &&& 1#64).getLsbD 0 = true := by rw [BitVec.getLsbD_and, BitVec.getLsbD_ushiftRight]; simp [hbi]
      rw [h0] at this; simp at this
    · intro hm
      rw [decide_eq_false hm] at hbi
      apply BitVec.eq_of_getLsbD_eq
      intro k hk
      rw [BitVec.getLsbD_and, BitVec.getLsbD_ushiftRight]
      by_cases e : k = 0
      · subst e; simp [hbi]
      · simp [BitVec.getLsbD_one, e]
  · constructor
    · intro h0 j hj
      have hjn := (hp _ hj).1
      have : (a &&& ~~~set).getLsbD j = false := by rw [h0]; simp
      rw [BitVec.getLsbD_and, BitVec.getLsbD_not, hb j, h.bits j] at this
      have ht : (es.any fun p => p.2 == i && p.1 == j) = true := List.any_eq_true.2 ⟨(j, i), hj, by simp⟩
      rw [ht] at this
      simp at this
      exact this (by omega)
    · intro hall
      apply BitVec.eq_of_getLsbD_eq
      intro k hk
      rw [BitVec.getLsbD_and, BitVec.getLsbD_not, hb k, h.bits k]
      cases ht : es.any fun p => p.2 == i && p.1 == k
      · simp
      · obtain ⟨p, hpm, hpe⟩ := List.any_eq_true.1 ht
        simp only [Bool.and_eq_true, beq_iff_eq] at hpe
        obtain ⟨p1, p2⟩ := p
        obtain ⟨rfl, rfl⟩ := hpe
        have := hall p1 hpm
        simp [this]
end Go.Lg.Sem

set_option linter.unusedVariables false
set_option linter.unusedSimpArgs false
namespace Go.Lg.Sem
open Go
inductive EdgeWay (es : List (Nat × Nat)) : Nat → Nat → Prop
  | one {a b : Nat} : (a, b) ∈ es → EdgeWay es a b
  | snoc {a b c : Nat} : EdgeWay es a b → (b, c) ∈ es → EdgeWay es a c
theorem EdgeWay.trans {es : List (Nat × Nat)} {a b c : Nat} (h : EdgeWay es a b) (k : EdgeWay es b c) : EdgeWay es a c := by
  induction k with
  | one e => exact .snoc h e
  | snoc _ e ih => exact .snoc ih e
def CycP (n : Nat) (es : List (Nat × Nat)) : Prop := ∃ a, a < n ∧ EdgeWay es a a
theorem nodup_lt : ∀ (n : Nat) (l : List Nat), l.Nodup → (∀ i, i ∈ l → i < n) → l.length ≤ n
  | 0, l, _, h => by
    cases l with
    | nil => exact Nat.le_refl _
    | cons x r => exact absurd (h x (List.mem_cons_self ..)) (by omega)
  | n + 1, l, hd, h => by
    by_cases hn : n ∈ l
    · have h1 := nodup_lt n (l.erase n) (hd.erase n) (fun i hi => by
        have h2 := (hd.mem_erase_iff).1 hi
        have := h i h2.2
        have := h2.1
        omega)
      rw [List.length_erase_of_mem hn] at h1
      omega
    · have h1 := nodup_lt n l hd (fun i hi => by
        have := h i hi
        have : i ≠ n := fun e => hn (e ▸ hi)
        omega)
      omega
theorem OrdI.step {n : Nat} {es : List (Nat × Nat)} {out : List Nat} {set : BitVec 64} (h : OrdI n es out set) (hn : n ≤ 64) (hp : ∀ p, p ∈ es → p.1 < n ∧ p.2 < n) (hx : readyV n es set ≠ 0#64) :
    Lib.ctz 64 (readyV n es set).toNat < n ∧ OrdI n es (out ++ [Lib.ctz 64 (readyV n es set).toNat]) (set ||| (1#64 <<< Lib.ctz 64 (readyV n es set).toNat)) := by
  obtain ⟨h1, h2⟩ := ctz_bit _ hx
  have hb : (readyV n es set).getLsbD (Lib.ctz 64 (readyV n es set).toNat) = (decide (Lib.ctz 64 (readyV n es set).toNat < n) && rdy (aheadV n es) set (Lib.ctz 64 (readyV n es set).toNat)) := by
    unfold readyV; exact ready_bit _ _ n _ hn
  generalize Lib.ctz 64 (readyV n es set).toNat = i at *
  rw [h1] at hb
  have hb := hb.symm
  rw [Bool.and_eq_true, decide_eq_true_eq] at hb
  obtain ⟨hin, hr⟩ := hb
  obtain ⟨hout, hall⟩ := (rdy_iff h hn hp hin).1 hr
  refine ⟨hin, ?_, ?_, ?_, ?_⟩
  · rw [List.nodup_append]
    refine ⟨h.nodup, by simp, ?_⟩
    intro a ha b hb
    simp at hb; subst hb
    exact fun e => hout (e ▸ ha)
  · intro j hj
    rcases List.mem_append.1 hj with hj | hj
    · exact h.lt j hj
    · simp at hj; omega
  · intro j
    rw [BitVec.getLsbD_or, h.bits j, BitVec.getLsbD_shiftLeft, BitVec.getLsbD_one]
    by_cases e : j = i
    · subst e; simp; omega
    · by_cases hj : j ∈ out
      · simp [hj]
      · simp [hj, e]; omega
  · intro k j hk j' hj'
    rcases Nat.lt_or_ge k out.length with hl | hl
    · rw [List.getElem?_append_left hl] at hk
      have := h.need k j hk j' hj'
      rw [List.take_append_of_le_length (by omega)]; exact this
    · rw [List.getElem?_append_right hl] at hk
      have hk0 : k - out.length = 0 := by
        rcases Nat.eq_zero_or_pos (k - out.length) with e | e
        · exact e
        · rw [List.getElem?_eq_none (by simp; omega)] at hk; cases hk
      rw [hk0] at hk
      simp at hk; subst hk
      have : k = out.length := by omega
      subst this
      rw [List.take_left']
      · exact hall j' hj'
      · rfl
theorem circle_of {es : List (Nat × Nat)} (n : Nat) (U : Nat → Prop) (hU : ∀ i, U i → i < n ∧ ∃ j, U j ∧ (j, i) ∈ es) (i0 : Nat) (h0 : U i0) : CycP n es := by
  -- a way back of any length, as a list whose head is the last one that was found
  have way : ∀ k, ∃ l : List Nat, l.length = k + 1 ∧ (∀ x, x ∈ l → U x) ∧ l.Pairwise (fun a b => EdgeWay es a b) := by
    intro k
    induction k with
    | zero => exact ⟨[i0], rfl, by simpa using h0, by simp⟩
    | succ k ih =>
      obtain ⟨l, hl, hu, hp⟩ := ih
      cases l with
      | nil => simp at hl
      | cons x r =>
        obtain ⟨_, j, hj, he⟩ := hU x (hu x (List.mem_cons_self ..))
        refine ⟨j :: x :: r, by simp at hl ⊢; omega, ?_, ?_⟩
        · intro y hy
          rcases List.mem_cons.1 hy with rfl | hy
          · exact hj
          · exact hu y hy
        · rw [List.pairwise_cons]
          refine ⟨?_, hp⟩
          intro y hy
          rcases List.mem_cons.1 hy with rfl | hy
          · exact .one he
          · exact (EdgeWay.one he).trans ((List.pairwise_cons.1 hp).1 y hy)
  obtain ⟨l, hl, hu, hp⟩ := way n
  have hnd : ¬ l.Nodup := fun hd => by
    have := nodup_lt n l hd (fun i hi => (hU i (hu i hi)).1)
    omega
  apply Classical.byContradiction
  intro hc
  refine hnd ?_
  have : ∀ l : List Nat, (∀ x, x ∈ l → U x) → l.Pairwise (fun a b => EdgeWay es a b) → l.Nodup := by
    intro l
    induction l with
    | nil => intro _ _; exact List.nodup_nil
    | cons x r ih =>
      intro hu hp
      rw [List.pairwise_cons] at hp
      rw [List.nodup_cons]
      refine ⟨fun hx => hc ⟨x, (hU x (hu x (List.mem_cons_self ..))).1, hp.1 x hx⟩, ih (fun y hy => hu y (List.mem_cons_of_mem _ hy)) hp.2⟩
  exact this l hu hp
theorem OrdI.done {n : Nat} {es : List (Nat × Nat)} {out : List Nat} {set : BitVec 64} (h : OrdI n es out set) (hn : n ≤ 64) (hp : ∀ p, p ∈ es → p.1 < n ∧ p.2 < n) (hx : readyV n es set = 0#64) : out.length < n ↔ CycP n es := by
  have hno : ∀ i, i < n → i ∉ out → ∃ j, j < n ∧ j ∉ out ∧ (j, i) ∈ es := by
    intro i hi ho
    apply Classical.byContradiction
    intro hc
    have : rdy (aheadV n es) set i = true := (rdy_iff h hn hp hi).2 ⟨ho, fun j hj => Classical.byContradiction fun hjo => hc ⟨j, (hp _ hj).1, hjo, hj⟩⟩
    have hb : (readyV n es set).getLsbD i = (decide (i < n) && rdy (aheadV n es) set i) := by unfold readyV; exact ready_bit _ _ n _ hn
    rw [hx, this] at hb
    simp [hi] at hb
  constructor
  · intro hlt
    obtain ⟨i0, hi0, ho0⟩ : ∃ i, i < n ∧ i ∉ out := by
      apply Classical.byContradiction
      intro hc
      have hall : ∀ i, i < n → i ∈ out := fun i hi => Classical.byContradiction fun ho => hc ⟨i, hi, ho⟩
      have := (List.nodup_range (n := n)).length_le_of_subset (fun i hi => hall i (List.mem_range.1 hi))
      simp at this
      omega
    refine circle_of n (fun i => i < n ∧ i ∉ out) ?_ i0 ⟨hi0, ho0⟩
    rintro i ⟨hi, ho⟩
    obtain ⟨j, hj, hjo, hje⟩ := hno i hi ho
    exact ⟨hi, j, ⟨hj, hjo⟩, hje⟩
  · rintro ⟨a, ha, hr⟩
    apply Classical.byContradiction
    intro hge
    -- all are in the order: a way leads on in it
    have hall : ∀ i, i < n → i ∈ out := by
      intro i hi
      apply Classical.byContradiction
      intro ho
      have := nodup_lt n (i :: out) (List.nodup_cons.2 ⟨ho, h.nodup⟩) (fun j hj => by
        rcases List.mem_cons.1 hj with rfl | hj
        · exact hi
        · exact h.lt j hj)
      simp at this
      omega
    have key : ∀ a b, EdgeWay es a b → ∀ k, out[k]? = some b → a ∈ out.take k := by
      intro a b hr
      induction hr with
      | one e => intro k hk; exact h.need k _ hk _ e
      | snoc hab e ih =>
        intro k hk
        have hb := h.need k _ hk _ e
        obtain ⟨k', hk'⟩ := List.mem_iff_getElem?.1 hb
        have hlt : k' < k := by
          rcases Nat.lt_or_ge k' k with h | h
          · exact h
          · rw [List.getElem?_take, if_neg (by omega)] at hk'; cases hk'
        rw [List.getElem?_take, if_pos hlt] at hk'
        have := ih k' hk'
        have hsub : ∀ x, x ∈ out.take k' → x ∈ out.take k := by
          intro x hx
          obtain ⟨q, hq⟩ := List.mem_iff_getElem?.1 hx
          have hql : q < k' := by
            rcases Nat.lt_or_ge q k' with h | h
            · exact h
            · rw [List.getElem?_take, if_neg (by omega)] at hq; cases hq
          rw [List.getElem?_take, if_pos hql] at hq
          refine List.mem_iff_getElem?.2 ⟨q, ?_⟩
          rw [List.getElem?_take, if_pos (by omega)]; exact hq
        exact hsub _ this
    obtain ⟨k, hk⟩ := List.mem_iff_getElem?.1 (hall a ha)
    have hm := key a a hr k hk
    obtain ⟨q, hq⟩ := List.mem_iff_getElem?.1 hm
    have hql : q < k := by
      rcases Nat.lt_or_ge q k with h | h
      · exact h
      · rw [List.getElem?_take, if_neg (by omega)] at hq; cases hq
    rw [List.getElem?_take, if_pos hql] at hq
    have hkl : k < out.length := by
      rcases Nat.lt_or_ge k out.length with h | h
      · exact h
      · rw [List.getElem?_eq_none h] at hk; cases hk
    have hd := List.pairwise_iff_getElem.1 h.nodup q k (by omega) hkl hql
    rw [List.getElem?_eq_getElem (by omega)] at hq
    rw [List.getElem?_eq_getElem hkl] at hk
    exact hd (Option.some.inj (hq.trans hk.symm))
end Go.Lg.Sem

set_option linter.unusedVariables false
set_option linter.unusedSimpArgs false
namespace Go.Lg.Tryz
open Go Go.Proofs Go.RowKit Go.Lib Go.Lg.Sem
set_option maxRecDepth 8192 in
theorem Order_ok (n : Nat) (es : List (Nat × Nat)) (hn : n ≤ 64) (hl : es.length ≤ 4096) (hp : ∀ p, p ∈ es → p.1 < n ∧ p.2 < n) (cyc : Bool) (hc : cyc = true ↔ CycP n es) :
    Fn Tryz.prog Gw 49 [.tr (grT n es)] [] (fun x => ∃ l, x = .tup [.tr (.ls l), int (if cyc then 21 else 0)]) := by
  have hK := gCheck_ok n es hn hl hp
  refine Fn.of tab_ok Tryz.func49 rfl (by decide) (by simp [Tryz.f49]) rfl (fun κ v h => by cases h) Gw.below ?_
  repeat' (first|refine zS ?_|refine zR ?_|refine zE tab_ok rfl rfl ?_|refine zN ?_|(refine zG rfl rfl (fun _ => ?_) fun _ => ?_)<;>refine zE tab_ok rfl rfl ?_|(refine zC rfl (fun _ => ?_) fun _ => ?_)<;>try (rename_i h; cases h; done)|refine zB ?_|refine zK ?_|refine zZ ⟨_, rfl, ?_⟩)
  refine (fun hp => Tr.scopeS (ι := List Nat × BitVec 64) 0 rfl (fun i => [(.s 1, .ptr (.l 1) 0), (.l 1, .blk 93 [int n, .tr (.ls (es.map edT))]), (.s 5, .own 3 (i.1.map fun k : Nat => .sc (.int .i64 (k : Int)))), (.s 6, u64 i.2)]) (fun i => n - i.1.length) (fun i => OrdI n es i.1 i.2) ?_ hp) ?_
  · repeat' (first|refine zS ?_|refine zR ?_|refine zE tab_ok rfl rfl ?_|refine zN ?_|(refine zG rfl rfl (fun _ => ?_) fun _ => ?_)<;>refine zE tab_ok rfl rfl ?_|(refine zC rfl (fun _ => ?_) fun _ => ?_)<;>try (rename_i h; cases h; done)|refine zB ?_|refine zK ?_|refine zZ ⟨_, rfl, ?_⟩)
    refine Sq.callv rfl (hK) ?_
    repeat' (first|refine zS ?_|refine zR ?_|refine zE tab_ok rfl rfl ?_|refine zN ?_|(refine zG rfl rfl (fun _ => ?_) fun _ => ?_)<;>refine zE tab_ok rfl rfl ?_|(refine zC rfl (fun _ => ?_) fun _ => ?_)<;>try (rename_i h; cases h; done)|refine zB ?_|refine zK ?_|refine zZ ⟨_, rfl, ?_⟩)
    refine Tr.label ?_
    refine Tr.sub (m' := [_, _, _, _]) ?_ (Tr.mono (hp ([], 0#64) (OrdI.zero n es)) ?_)
    · exact ⟨rfl, rfl, rfl, rfl, trivial⟩
    · intro e m hq
      cases e with
      | goto l =>
        obtain ⟨h1, j, h2, _, h3⟩ := hq
        exact ⟨h1, j, h2, h3⟩
      | _ => exact hq
  · rintro ⟨out, set⟩ hi
    have hi : OrdI n es out set := hi
    have hR := ready_ok n es set hn hl hp
    have hle : out.length ≤ n := nodup_lt n out hi.nodup hi.lt
    by_cases hx : readyV n es set = 0#64
    · rw [hx] at hR
      have hd := hi.done hn hp hx
      repeat' (first|refine zS ?_|refine zR ?_|refine zE tab_ok rfl rfl ?_|refine zN ?_|(refine zG rfl rfl (fun _ => ?_) fun _ => ?_)<;>refine zE tab_ok rfl rfl ?_|(refine zC rfl (fun _ => ?_) fun _ => ?_)<;>try (rename_i h; cases h; done)|refine zB ?_|refine zK ?_|refine zZ ⟨_, rfl, ?_⟩)
      refine Sq.callv rfl (hR) ?_
      repeat' (first|refine zS ?_|refine zR ?_|refine zE tab_ok rfl rfl ?_|refine zN ?_|(refine zG rfl rfl (fun _ => ?_) fun _ => ?_)<;>refine zE tab_ok rfl rfl ?_|(refine zC rfl (fun _ => ?_) fun _ => ?_)<;>try (rename_i h; cases h; done)|refine zB ?_|refine zK ?_|refine zZ ⟨_, rfl, ?_⟩)
      · rename_i h2
        have h2 : decide ((((out.map fun k : Nat => T.sc (.int .i64 (k : Int))).length : Nat) : Int) < (n : Int)) = true := h2
        simp only [List.length_map, decide_eq_true_eq] at h2
        rw [if_pos (hc.2 (hd.1 (by omega)))]
        exact ⟨_, rfl⟩
      · rename_i h2
        have h2 : decide ((((out.map fun k : Nat => T.sc (.int .i64 (k : Int))).length : Nat) : Int) < (n : Int)) = false := h2
        simp only [List.length_map, decide_eq_false_iff_not] at h2
        rw [if_neg (fun e => h2 (by have := hd.2 (hc.1 e); omega))]
        exact ⟨_, rfl⟩
    · obtain ⟨hlt, hst⟩ := hi.step hn hp hx
      have hT := tz_ok (readyV n es set)
      generalize readyV n es set = R at *
      generalize Lib.ctz 64 R.toNat = k at *
      repeat' (first|refine zS ?_|refine zR ?_|refine zE tab_ok rfl rfl ?_|refine zN ?_|(refine zG rfl rfl (fun _ => ?_) fun _ => ?_)<;>refine zE tab_ok rfl rfl ?_|(refine zC rfl (fun _ => ?_) fun _ => ?_)<;>try (rename_i h; cases h; done)|refine zB ?_|refine zK ?_|refine zZ ⟨_, rfl, ?_⟩)
      refine Sq.callv rfl (hR) ?_
      repeat' (first|refine zS ?_|refine zR ?_|refine zE tab_ok rfl rfl ?_|refine zN ?_|(refine zG rfl rfl (fun _ => ?_) fun _ => ?_)<;>refine zE tab_ok rfl rfl ?_|(refine zC rfl (fun _ => ?_) fun _ => ?_)<;>try (rename_i h; cases h; done)|refine zB ?_|refine zK ?_|refine zZ ⟨_, rfl, ?_⟩)
      · refine Sq.callv rfl (hT) ?_
        refine zE tab_ok rfl rfl ?_
        refine zN ?_
        refine zS ?_
        have hlen : (out.map fun k : Nat => T.sc (.int .i64 (k : Int))).length + 1 ≤ 1073741824 := by rw [List.length_map]; omega
        refine Tr.drawn ( zD tab_ok rfl rfl <| zD tab_ok rfl rfl <| zD tab_ok rfl rfl <| DSq.two rfl (fun q K hK => Sq.append tab_ok rfl (by simp; rfl) hlen (zN hK)) <| zD tab_ok rfl rfl <| zD tab_ok rfl rfl <| zO rfl (fun q K hK => Sq.shift rfl 1#64 k rfl rfl (by omega) (zN hK)) <| zO rfl (fun q K hK => Sq.bits rfl set (1#64 <<< k) (r := set ||| (1#64 <<< k)) rfl rfl rfl (zN hK)) <| zD tab_ok rfl rfl <| zD tab_ok rfl rfl <| DSq.nil _) mix_ok rfl ?_
        refine Tr.goto ?_
        have hlo : (out ++ [k]).length ≤ n := nodup_lt n _ hst.nodup hst.lt
        rw [List.length_append] at hlo
        refine ⟨rfl, (out ++ [k], _), hst, ?_, ?_⟩
        · show n - (out ++ [k]).length < n - out.length
          rw [List.length_append]; simp at hlo ⊢; omega
        · exact Sub.app (l := [_, _, _, _]) (H := []) ⟨rfl, rfl, congrArg some (congrArg (AV.own _) (by simp)), rfl, trivial⟩ (fun κ v h => nomatch h)
      all_goals
        exfalso
        rename_i h2 _
        have h2 : ((R.toNat : Int) != 0) = false := h2
        have h3 := bv_zero R
        simp only [bne, Bool.not_eq_false'] at h2
        rw [h3, beq_iff_eq] at h2
        exact hx h2
end Go.Lg.Tryz

set_option linter.unusedVariables false
set_option linter.unusedSimpArgs false
namespace Go.Lg.Sem
open Go
def falses : List Bool → Nat
  | [] => 0
  | b :: r => (if b then 0 else 1) + falses r
theorem falses_rep : ∀ n, falses (List.replicate n false) = n
  | 0 => rfl
  | n + 1 => by rw [List.replicate_succ]; simp only [falses]; rw [falses_rep n]; simp; omega
theorem falses_set : ∀ (o : List Bool) (y : Nat), o[y]? = some false → falses (o.set y true) + 1 = falses o
  | b :: r, 0, h => by simp at h; subst h; simp [falses]; omega
  | b :: r, y + 1, h => by
    have := falses_set r y (by simpa using h)
    simp only [List.set_cons_succ, falses]; omega
  | [], y, h => by simp at h
structure FromI (n : Nat) (es : List (Nat × Nat)) (a : Nat) (o : List Bool) (q : List Nat) : Prop where
  len : o.length = n
  sound : ∀ y, o[y]? = some true → EdgeWay es a y
  qlt : ∀ x, x ∈ q → x < n ∧ (x = a ∨ EdgeWay es a x)
  clos : ∀ x, (x = a ∨ o[x]? = some true) → x ∈ q ∨ ∀ y, (x, y) ∈ es → o[y]? = some true
  mu : 2 * falses o + q.length ≤ 2 * n + 1
structure InI (n : Nat) (es : List (Nat × Nat)) (a x : Nat) (m0 : Nat) (o : List Bool) (q : List Nat) (k : Nat) : Prop where
  len : o.length = n
  sound : ∀ y, o[y]? = some true → EdgeWay es a y
  qlt : ∀ x, x ∈ q → x < n ∧ (x = a ∨ EdgeWay es a x)
  xr : x = a ∨ EdgeWay es a x
  clos : ∀ z, (z = a ∨ o[z]? = some true) → z ∈ q ∨ (z = x ∧ ∀ j y, j < k → es[j]? = some (x, y) → o[y]? = some true) ∨ ∀ y, (z, y) ∈ es → o[y]? = some true
  mu : 2 * falses o + q.length < m0
  m0 : m0 ≤ 2 * n + 1
  kle : k ≤ es.length
theorem FromI.init {n : Nat} {es : List (Nat × Nat)} {a : Nat} (ha : a < n) : FromI n es a (List.replicate n false) [a] := by
  have hno : ∀ y, (List.replicate n false)[y]? ≠ some true := fun y h => by
    have := List.mem_of_getElem? h
    have := List.eq_of_mem_replicate this
    cases this
  refine ⟨by simp, fun y h => absurd h (hno y), fun x hx => by simp at hx; subst hx; exact ⟨ha, .inl rfl⟩, fun x hx => ?_, by rw [falses_rep]; simp⟩
  rcases hx with rfl | h
  · exact .inl (by simp)
  · exact absurd h (hno x)
theorem FromI.pop {n : Nat} {es : List (Nat × Nat)} {a x : Nat} {o : List Bool} {q : List Nat} (h : FromI n es a o (x :: q)) : InI n es a x (2 * falses o + (x :: q).length) o q 0 := by
  refine ⟨h.len, h.sound, fun y hy => h.qlt y (List.mem_cons_of_mem _ hy), (h.qlt x (List.mem_cons_self ..)).2, fun z hz => ?_, by simp, h.mu, Nat.zero_le _⟩
  rcases h.clos z hz with h1 | h1
  · rcases List.mem_cons.1 h1 with rfl | h1
    · exact .inr (.inl ⟨rfl, fun j y hj => absurd hj (Nat.not_lt_zero _)⟩)
    · exact .inl h1
  · exact .inr (.inr h1)
theorem InI.skip {n : Nat} {es : List (Nat × Nat)} {a x m0 : Nat} {o : List Bool} {q : List Nat} {k u v : Nat} (h : InI n es a x m0 o q k) (hk : es[k]? = some (u, v)) (hs : u = x → o[v]? = some true) : InI n es a x m0 o q (k + 1) := by
  refine { h with clos := fun z hz => ?_, kle := ?_ }
  · rcases h.clos z hz with h1 | ⟨h1, h2⟩ | h1
    · exact .inl h1
    · refine .inr (.inl ⟨h1, fun j y hj hy => ?_⟩)
      rcases Nat.lt_succ_iff_lt_or_eq.1 hj with h3 | rfl
      · exact h2 j y h3 hy
      · rw [hk] at hy
        injection hy with hy; injection hy with h4 h5
        subst h4; subst h5; exact hs rfl
    · exact .inr (.inr h1)
  · rcases Nat.lt_or_ge k es.length with h | h
    · omega
    · rw [List.getElem?_eq_none h] at hk; cases hk
theorem InI.add {n : Nat} {es : List (Nat × Nat)} {a x m0 : Nat} {o : List Bool} {q : List Nat} {k v : Nat} (h : InI n es a x m0 o q k) (hk : es[k]? = some (x, v)) (hv : o[v]? = some false) : InI n es a x m0 (o.set v true) (q ++ [v]) (k + 1) := by
  have hlt : v < o.length := by
    rcases Nat.lt_or_ge v o.length with h | h
    · exact h
    · rw [List.getElem?_eq_none h] at hv; cases hv
  have hat : ∀ y, (o.set v true)[y]? = if v = y then some true else o[y]? := by
    intro y
    rw [List.getElem?_set]
    by_cases e : v = y
    · subst e; simp [hlt]
    · simp [e]
  have hrv : EdgeWay es a v := by
    have he : (x, v) ∈ es := List.mem_of_getElem? hk
    rcases h.xr with rfl | hr
    · exact .one he
    · exact .snoc hr he
  have keep : ∀ y, o[y]? = some true → (o.set v true)[y]? = some true := fun y hy => by rw [hat]; split <;> first | rfl | exact hy
  have hf := falses_set o v hv
  refine ⟨by rw [List.length_set]; exact h.len, fun y hy => ?_, fun y hy => ?_, h.xr, fun z hz => ?_, ?_, h.m0, ?_⟩
  · rw [hat] at hy
    split at hy
    · rename_i e; subst e; exact hrv
    · exact h.sound y hy
  · rcases List.mem_append.1 hy with hy | hy
    · exact h.qlt y hy
    · simp at hy; subst hy; exact ⟨by rw [← h.len]; exact hlt, .inr hrv⟩
  · have hz' : z = v ∨ (z = a ∨ o[z]? = some true) := by
      rcases hz with rfl | hz
      · exact .inr (.inl rfl)
      · rw [hat] at hz
        split at hz
        · rename_i e; exact .inl e.symm
        · exact .inr (.inr hz)
    rcases hz' with rfl | hz'
    · exact .inl (by simp)
    · rcases h.clos z hz' with h1 | ⟨h1, h2⟩ | h1
      · exact .inl (List.mem_append_left _ h1)
      · refine .inr (.inl ⟨h1, fun j y hj hy => ?_⟩)
        rcases Nat.lt_succ_iff_lt_or_eq.1 hj with h3 | rfl
        · exact keep y (h2 j y h3 hy)
        · rw [hk] at hy
          injection hy with hy; injection hy with _ h5
          subst h5; rw [hat, if_pos rfl]
      · exact .inr (.inr fun y hy => keep y (h1 y hy))
  · have := h.mu
    rw [List.length_append]; simp; omega
  · rcases Nat.lt_or_ge k es.length with h | h
    · omega
    · rw [List.getElem?_eq_none h] at hk; cases hk
theorem InI.done {n : Nat} {es : List (Nat × Nat)} {a x m0 : Nat} {o : List Bool} {q : List Nat} (h : InI n es a x m0 o q es.length) : FromI n es a o q := by
  refine ⟨h.len, h.sound, h.qlt, fun z hz => ?_, by have := h.mu; have := h.m0; omega⟩
  rcases h.clos z hz with h1 | ⟨rfl, h2⟩ | h1
  · exact .inl h1
  · refine .inr fun y hy => ?_
    obtain ⟨j, hj⟩ := List.mem_iff_getElem?.1 hy
    refine h2 j y ?_ hj
    rcases Nat.lt_or_ge j es.length with h | h
    · exact h
    · rw [List.getElem?_eq_none h] at hj; cases hj
  · exact .inr h1
theorem FromI.reach {n : Nat} {es : List (Nat × Nat)} {a : Nat} {o : List Bool} (h : FromI n es a o []) (y : Nat) : o[y]? = some true ↔ EdgeWay es a y := by
  refine ⟨h.sound y, fun hr => ?_⟩
  have cl : ∀ x, (x = a ∨ o[x]? = some true) → ∀ y, (x, y) ∈ es → o[y]? = some true := fun x hx => (h.clos x hx).resolve_left (by simp)
  induction hr with
  | one e => exact cl _ (.inl rfl) _ e
  | snoc _ e ih => exact cl _ (.inr ih) _ e
end Go.Lg.Sem

set_option linter.unusedVariables false
set_option linter.unusedSimpArgs false
namespace Go.Lg.Tryz
open Go Go.Proofs Go.RowKit Go.Lib Go.Lg.Sem
abbrev boolT (b : Bool) : T := .sc (.bool b)
abbrev natT (k : Nat) : T := .sc (.int .i64 (k : Int))
theorem From_ok (n : Nat) (es : List (Nat × Nat)) (a : Nat) (ha : a < n) (hn : n ≤ 64) (hl : es.length ≤ 4096) (hp : ∀ p, p ∈ es → p.1 < n ∧ p.2 < n) :
    Fn Tryz.prog Gw 58 [.tr (grT n es), int a] [] (fun x => ∃ o : List Bool, x = .tr (.ls (o.map boolT)) ∧ o.length = n ∧ ∀ y, o[y]? = some true ↔ EdgeWay es a y) := by
  refine Fn.of tab_ok Tryz.func58 rfl (by decide) (by simp [Tryz.f58]) rfl (fun κ v h => by cases h) Gw.below ?_
  repeat' (first|refine zS ?_|refine zR ?_|refine zE tab_ok rfl rfl ?_|refine zN ?_|(refine zG rfl rfl (fun _ => ?_) fun _ => ?_)<;>refine zE tab_ok rfl rfl ?_|(refine zC rfl (fun _ => ?_) fun _ => ?_)<;>try (rename_i h; cases h; done)|refine zB ?_|refine zK ?_|refine zZ ⟨_, rfl, ?_⟩)
  refine Sq.make tab_ok rfl rfl (by omega) (by omega) (by omega) rfl ?_
  refine zE tab_ok rfl rfl ?_
  refine zN ?_
  repeat' (first|refine zS ?_|refine zR ?_|refine zE tab_ok rfl rfl ?_|refine zN ?_|(refine zG rfl rfl (fun _ => ?_) fun _ => ?_)<;>refine zE tab_ok rfl rfl ?_|(refine zC rfl (fun _ => ?_) fun _ => ?_)<;>try (rename_i h; cases h; done)|refine zB ?_|refine zK ?_|refine zZ ⟨_, rfl, ?_⟩)
  refine Tr.loopS (ι := List Bool × List Nat) (fun i => [(.s 1, int a), (.s 2, .ptr (.l 2) 0), (.l 2, .blk 69 [int n, .tr (.ls (es.map edT))]), (.s 5, .sl (.l 12) n n), (.l 12, .blk 4 ((i.1.map boolT).map .tr)), (.s 6, .own 3 (i.2.map natT))]) (fun i => 2 * falses i.1 + i.2.length) (fun i => FromI n es a i.1 i.2)
    (List.replicate n false, [a]) (FromI.init ha) (Sub.app (l := [_, _, _, _, _, _]) (H := []) ⟨rfl, rfl, rfl, rfl, ?_, rfl, trivial⟩ (fun κ v h => nomatch h)) ?_
  · show some (AV.blk _ (List.replicate n _)) = some (AV.blk _ (((List.replicate n false).map boolT).map .tr))
    rw [List.map_replicate, List.map_replicate]
  rintro ⟨o, q⟩ hi
  have hi : FromI n es a o q := hi
  repeat' (first|refine zS ?_|refine zR ?_|refine zE tab_ok rfl rfl ?_|refine zN ?_|(refine zG rfl rfl (fun _ => ?_) fun _ => ?_)<;>refine zE tab_ok rfl rfl ?_|(refine zC rfl (fun _ => ?_) fun _ => ?_)<;>try (rename_i h; cases h; done)|refine zB ?_|refine zK ?_|refine zZ ⟨_, rfl, ?_⟩)
  · rename_i h0
    cases q with
    | nil => exfalso; have h0 : decide (((([] : List Nat).map natT).length : Int) > 0) = true := h0; simp at h0
    | cons x q =>
    have hx := (hi.qlt x (List.mem_cons_self ..)).1
    have hin := hi.pop
    have hm0 : 2 * falses o + (x :: q).length ≤ 2 * n + 1 := hi.mu
    generalize 2 * falses o + (x :: q).length = m0 at *
    refine zI (x := natT x) tab_ok rfl (by omega) (rfl) rfl ?_
    refine zE tab_ok rfl rfl ?_
    refine zE tab_ok rfl rfl ?_
    refine zN ?_
    refine zS ?_
    refine zR ?_
    refine Sq.take rfl ?_
    refine Sq.tailO (lo := .at 1) tab_ok rfl (by simp [Bd.lo]) (by simp [Bd.lo]; omega) ?_
    refine zE tab_ok rfl rfl ?_
    refine zN ?_
    repeat' (first|refine zS ?_|refine zR ?_|refine zE tab_ok rfl rfl ?_|refine zN ?_|(refine zG rfl rfl (fun _ => ?_) fun _ => ?_)<;>refine zE tab_ok rfl rfl ?_|(refine zC rfl (fun _ => ?_) fun _ => ?_)<;>try (rename_i h; cases h; done)|refine zB ?_|refine zK ?_|refine zZ ⟨_, rfl, ?_⟩)
    refine Tr.loopS (ι := List Bool × List Nat × Nat) (fun i => [(.s 1, int a), (.s 2, .ptr (.l 2) 0), (.l 2, .blk 69 [int n, .tr (.ls (es.map edT))]), (.s 5, .sl (.l 12) n n), (.l 12, .blk 4 ((i.1.map boolT).map .tr)), (.s 6, .own 3 (i.2.1.map natT)), (.s 7, int x), (.s 8, int i.2.2)]) (fun i => es.length - i.2.2) (fun i => InI n es a x m0 i.1 i.2.1 i.2.2)
      (o, q, 0) hin (Sub.app (l := [_, _, _, _, _, _, _, _]) (H := []) ⟨rfl, rfl, rfl, rfl, rfl, rfl, rfl, rfl, trivial⟩ (fun κ v h => nomatch h)) ?_
    rintro ⟨o, q, k⟩ hj
    have hj : InI n es a x m0 o q k := hj
    repeat' (first|refine zS ?_|refine zR ?_|refine zE tab_ok rfl rfl ?_|refine zN ?_|(refine zG rfl rfl (fun _ => ?_) fun _ => ?_)<;>refine zE tab_ok rfl rfl ?_|(refine zC rfl (fun _ => ?_) fun _ => ?_)<;>try (rename_i h; cases h; done)|refine zB ?_|refine zK ?_|refine zZ ⟨_, rfl, ?_⟩)
    · rename_i h2
      have h2 : decide ((k : Int) < ((es.map edT).length : Int)) = true := h2
      have hlt : k < es.length := by simp only [List.length_map, decide_eq_true_eq] at h2; omega
      obtain ⟨⟨u, v⟩, hpk⟩ : ∃ p, es[k]? = some p := ⟨_, List.getElem?_eq_getElem hlt⟩
      have hpe : (es.map edT)[((k : Nat) : Int).toNat]? = some (edT (u, v)) := by simp [hpk]
      obtain ⟨h1, h3⟩ := hp _ (List.mem_of_getElem? hpk)
      have h3 : v < n := h3
      obtain ⟨b, hb⟩ : ∃ b, o[v]? = some b := ⟨_, List.getElem?_eq_getElem (by rw [hj.len]; omega)⟩
      have hbe : ((o.map boolT).map AV.tr)[((v : Nat) : Int).toNat * 1]? = some (bool b) := by simp [hb]
      refine zI (x := edT (u, v)) tab_ok rfl (by omega) (hpe) rfl ?_
      refine Sq.indexAE tab_ok rfl (by omega) (by omega) ?_
      repeat' (first|refine zS ?_|refine zR ?_|refine zE tab_ok rfl rfl ?_|refine zN ?_|(refine zG rfl rfl (fun _ => ?_) fun _ => ?_)<;>refine zE tab_ok rfl rfl ?_|(refine zC rfl (fun _ => ?_) fun _ => ?_)<;>try (rename_i h; cases h; done)|refine zB ?_|refine zK ?_|refine zZ ⟨_, rfl, ?_⟩)
      refine zI (x := edT (u, v)) tab_ok rfl (by omega) (hpe) rfl ?_
      refine Sq.indexAE tab_ok rfl (by omega) (by omega) ?_
      repeat' (first|refine zS ?_|refine zR ?_|refine zE tab_ok rfl rfl ?_|refine zN ?_|(refine zG rfl rfl (fun _ => ?_) fun _ => ?_)<;>refine zE tab_ok rfl rfl ?_|(refine zC rfl (fun _ => ?_) fun _ => ?_)<;>try (rename_i h; cases h; done)|refine zB ?_|refine zK ?_|refine zZ ⟨_, rfl, ?_⟩)
      · rename_i hux
        have hux : ((u : Int) == (x : Int)) = true := hux
        have hux : u = x := by rw [beq_iff_eq] at hux; omega
        subst hux
        refine Sq.indexS tab_ok rfl (by omega) (by omega) ?_
        refine Sq.loadS (v := bool b) tab_ok rfl hbe ?_
        cases b
        · repeat' (first|refine zS ?_|refine zR ?_|refine zE tab_ok rfl rfl ?_|refine zN ?_|(refine zG rfl rfl (fun _ => ?_) fun _ => ?_)<;>refine zE tab_ok rfl rfl ?_|(refine zC rfl (fun _ => ?_) fun _ => ?_)<;>try (rename_i h; cases h; done)|refine zB ?_|refine zK ?_|refine zZ ⟨_, rfl, ?_⟩)
          refine Sq.indexS tab_ok rfl (by omega) (by omega) ?_
          refine Sq.storeS tab_ok rfl (by rw [List.length_map, List.length_map, hj.len]; omega) ?_
          repeat' (first|refine zS ?_|refine zR ?_|refine zE tab_ok rfl rfl ?_|refine zN ?_|(refine zG rfl rfl (fun _ => ?_) fun _ => ?_)<;>refine zE tab_ok rfl rfl ?_|(refine zC rfl (fun _ => ?_) fun _ => ?_)<;>try (rename_i h; cases h; done)|refine zB ?_|refine zK ?_|refine zZ ⟨_, rfl, ?_⟩)
          refine Sq.append tab_ok rfl (fun y hy => by simp only [List.mem_singleton] at hy; subst hy; rfl) (by have h1 := hj.mu; have h2 := hj.m0; simp; omega) ?_
          repeat' (first|refine zS ?_|refine zR ?_|refine zE tab_ok rfl rfl ?_|refine zN ?_|(refine zG rfl rfl (fun _ => ?_) fun _ => ?_)<;>refine zE tab_ok rfl rfl ?_|(refine zC rfl (fun _ => ?_) fun _ => ?_)<;>try (rename_i h; cases h; done)|refine zB ?_|refine zK ?_|refine zZ ⟨_, rfl, ?_⟩)
          have hset : ((o.map boolT).map AV.tr).set (((v : Nat) : Int).toNat * 1) (bool true) = ((o.set v true).map boolT).map AV.tr := by
            rw [Int.toNat_natCast, Nat.mul_one, List.map_set, List.map_set]
          exact ⟨(o.set v true, q ++ [v], k + 1), hj.add hpk hb, by show es.length - (k + 1) < es.length - k; omega, Sub.app (l := [_, _, _, _, _, _, _, _]) (H := []) ⟨rfl, rfl, rfl, rfl, congrArg some (congrArg (AV.blk _) hset), congrArg some (congrArg (AV.own _) (by simp)), rfl, congrArg some (wrapz (by (try dsimp only); omega) (by (try dsimp only); omega) (by (try dsimp only); omega)), trivial⟩ (fun κ v h => nomatch h)⟩
        · repeat' (first|refine zS ?_|refine zR ?_|refine zE tab_ok rfl rfl ?_|refine zN ?_|(refine zG rfl rfl (fun _ => ?_) fun _ => ?_)<;>refine zE tab_ok rfl rfl ?_|(refine zC rfl (fun _ => ?_) fun _ => ?_)<;>try (rename_i h; cases h; done)|refine zB ?_|refine zK ?_|refine zZ ⟨_, rfl, ?_⟩)
          exact ⟨(o, q, k + 1), hj.skip hpk (fun _ => hb), by show es.length - (k + 1) < es.length - k; omega, Sub.app (l := [_, _, _, _, _, _, _, _]) (H := []) ⟨rfl, rfl, rfl, rfl, rfl, rfl, rfl, congrArg some (wrapz (by (try dsimp only); omega) (by (try dsimp only); omega) (by (try dsimp only); omega)), trivial⟩ (fun κ v h => nomatch h)⟩
      · rename_i hux _
        have hux : ((u : Int) == (x : Int)) = false := hux
        exact ⟨(o, q, k + 1), hj.skip hpk (fun e => by subst e; simp at hux), by show es.length - (k + 1) < es.length - k; omega, Sub.app (l := [_, _, _, _, _, _, _, _]) (H := []) ⟨rfl, rfl, rfl, rfl, rfl, rfl, rfl, congrArg some (wrapz (by (try dsimp only); omega) (by (try dsimp only); omega) (by (try dsimp only); omega)), trivial⟩ (fun κ v h => nomatch h)⟩
    · rename_i h2
      have h2 : decide ((k : Int) < ((es.map edT).length : Int)) = false := h2
      have hge : k = es.length := by simp only [List.length_map, decide_eq_false_iff_not] at h2; have := hj.kle; omega
      subst hge
      refine Tr.exit ?_
      repeat' (first|refine zS ?_|refine zR ?_|refine zE tab_ok rfl rfl ?_|refine zN ?_|(refine zG rfl rfl (fun _ => ?_) fun _ => ?_)<;>refine zE tab_ok rfl rfl ?_|(refine zC rfl (fun _ => ?_) fun _ => ?_)<;>try (rename_i h; cases h; done)|refine zB ?_|refine zK ?_|refine zZ ⟨_, rfl, ?_⟩)
      exact ⟨(o, q), hj.done, hj.mu, Sub.app (l := [_, _, _, _, _, _]) (H := []) ⟨rfl, rfl, rfl, rfl, rfl, rfl, trivial⟩ (fun κ v h => nomatch h)⟩
  · rename_i h0
    cases q with
    | cons x q => exfalso; have h0 : decide (((((x :: q) : List Nat).map natT).length : Int) > 0) = false := h0; simp at h0
    | nil =>
    refine Tr.exit ?_
    have hlen := hi.len
    have hre := hi.reach
    refine Tr.turn (fun Γ a w h => RelX.freeze1 (xs := o.map boolT) (cap := n) h (s := 5) (κ := .l 12) ?_ rfl rfl ?_) ?_
    · show some (AV.sl _ _ _) = some (AV.sl _ _ _)
      rw [List.length_map, hlen]
    · intro y hy
      obtain ⟨v, _, rfl⟩ := List.mem_map.1 hy
      rfl
    repeat' (first|refine zS ?_|refine zR ?_|refine zE tab_ok rfl rfl ?_|refine zN ?_|(refine zG rfl rfl (fun _ => ?_) fun _ => ?_)<;>refine zE tab_ok rfl rfl ?_|(refine zC rfl (fun _ => ?_) fun _ => ?_)<;>try (rename_i h; cases h; done)|refine zB ?_|refine zK ?_|refine zZ ⟨_, rfl, ?_⟩)
    exact ⟨o, rfl, hlen, hre⟩
theorem Circle_ok (n : Nat) (es : List (Nat × Nat)) (hn : n ≤ 64) (hl : es.length ≤ 4096) (hp : ∀ p, p ∈ es → p.1 < n ∧ p.2 < n) (cyc : Bool) (hc : cyc = true ↔ CycP n es) :
    Fn Tryz.prog Gw 51 [.tr (grT n es)] [] (· = bool cyc) := by
  refine Fn.of tab_ok Tryz.func51 rfl (by decide) (by simp [Tryz.f51]) rfl (fun κ v h => by cases h) Gw.below ?_
  repeat' (first|refine zS ?_|refine zR ?_|refine zE tab_ok rfl rfl ?_|refine zN ?_|(refine zG rfl rfl (fun _ => ?_) fun _ => ?_)<;>refine zE tab_ok rfl rfl ?_|(refine zC rfl (fun _ => ?_) fun _ => ?_)<;>try (rename_i h; cases h; done)|refine zB ?_|refine zK ?_|refine zZ ⟨_, rfl, ?_⟩)
  refine Tr.loopS (fun a : Nat => [(.s 1, .ptr (.l 1) 0), (.l 1, .blk 69 [int n, .tr (.ls (es.map edT))]), (.s 3, int a)]) (fun a => n - a) (fun a => a ≤ n ∧ ∀ b, b < a → ¬ EdgeWay es b b)
    0 ⟨by omega, by intro b hb; omega⟩ (Sub.app (l := [_, _, _]) (H := []) ⟨rfl, rfl, rfl, trivial⟩ (fun κ v h => nomatch h)) ?_
  rintro a ⟨ha, hno⟩
  repeat' (first|refine zS ?_|refine zR ?_|refine zE tab_ok rfl rfl ?_|refine zN ?_|(refine zG rfl rfl (fun _ => ?_) fun _ => ?_)<;>refine zE tab_ok rfl rfl ?_|(refine zC rfl (fun _ => ?_) fun _ => ?_)<;>try (rename_i h; cases h; done)|refine zB ?_|refine zK ?_|refine zZ ⟨_, rfl, ?_⟩)
  · rename_i h2
    have hlt : a < n := by have := of_decide_eq_true h2; omega
    refine zL rfl (From_ok n es a hlt hn hl hp) ?_
    rintro _ ⟨o, rfl, hol, ho⟩
    obtain ⟨b, hb⟩ : ∃ b, o[a]? = some b := ⟨_, List.getElem?_eq_getElem (by omega)⟩
    have hbe : (o.map boolT)[((a : Nat) : Int).toNat]? = some (boolT b) := by simp [hb]
    refine zE tab_ok rfl rfl ?_
    refine zI (x := boolT b) tab_ok rfl (by omega) (hbe) rfl ?_
    refine zE tab_ok rfl rfl ?_
    cases b
    · repeat' (first|refine zS ?_|refine zR ?_|refine zE tab_ok rfl rfl ?_|refine zN ?_|(refine zG rfl rfl (fun _ => ?_) fun _ => ?_)<;>refine zE tab_ok rfl rfl ?_|(refine zC rfl (fun _ => ?_) fun _ => ?_)<;>try (rename_i h; cases h; done)|refine zB ?_|refine zK ?_|refine zZ ⟨_, rfl, ?_⟩)
      exact ⟨a + 1, ⟨by omega, fun b hb' => by
        rcases Nat.lt_succ_iff_lt_or_eq.1 hb' with h | rfl
        · exact hno b h
        · intro hr; rw [(ho b).2 hr] at hb; cases hb⟩, by omega, Sub.app (l := [_, _, _]) (H := []) ⟨rfl, rfl, congrArg some (wrapz (by omega) (by omega) (by omega)), trivial⟩ (fun κ v h => nomatch h)⟩
    · have : cyc = true := hc.2 ⟨a, hlt, (ho a).1 hb⟩
      subst this
      repeat' (first|refine zS ?_|refine zR ?_|refine zE tab_ok rfl rfl ?_|refine zN ?_|(refine zG rfl rfl (fun _ => ?_) fun _ => ?_)<;>refine zE tab_ok rfl rfl ?_|(refine zC rfl (fun _ => ?_) fun _ => ?_)<;>try (rename_i h; cases h; done)|refine zB ?_|refine zK ?_|refine zZ ⟨_, rfl, ?_⟩)
      rfl
  · rename_i h2
    have hge : n ≤ a := by have := of_decide_eq_false h2; omega
    have : cyc = false := by
      rw [← Bool.not_eq_true]
      intro h
      obtain ⟨b, hb, hr⟩ := hc.1 h
      exact hno b (by omega) hr
    subst this
    refine Tr.exit ?_
    repeat' (first|refine zS ?_|refine zR ?_|refine zE tab_ok rfl rfl ?_|refine zN ?_|(refine zG rfl rfl (fun _ => ?_) fun _ => ?_)<;>refine zE tab_ok rfl rfl ?_|(refine zC rfl (fun _ => ?_) fun _ => ?_)<;>try (rename_i h; cases h; done)|refine zB ?_|refine zK ?_|refine zZ ⟨_, rfl, ?_⟩)
    rfl
end Go.Lg.Tryz

set_option linter.unusedVariables false
set_option linter.unusedSimpArgs false
namespace Go.Lg
open Go Go.RowKit
section
variable {P : Program} {G : Env} {n : Nat} {tab : Tab} {m : Store}
def evReIm (n : Nat) (ops : List Oper) (o : Oper) (m : Store) : Option (Bool × Nat × Nat × Nat) := match o.op, o.dst, gOk m ops o.guard with
  | .call c, some d, true => match Nat.blt d n, c.callee, c.args.toList with
    | true, .builtin .real, [x] => match opV m x with
      | some (.tr (.sc (.complex .f64 a b))) => some (true, a, b, d)
      | _ => none
    | true, .builtin .imag, [x] => match opV m x with
      | some (.tr (.sc (.complex .f64 a b))) => some (false, a, b, d)
      | _ => none
    | _, _, _ => none
  | _, _, _ => none
theorem Sq.reim {ops l : List Oper} {o : Oper} {r : Bool} {x y : Nat} {d : Nat} {K : Store → Prop} (h : evReIm n ops o m = some (r, x, y, d)) (k : Sq P G n ops l ((.s d, .tr (.sc (.float .f64 (if r then x else y)))) :: m) K) : Sq P G n ops (o :: l) m K := by
  obtain ⟨dst, op', type, pos, after, guard⟩ := o
  unfold evReIm at h
  simp only at h
  split at h
  · rename_i c d' hgd
    split at h
    · rename_i ox hlt hcal hargs
      split at h
      · rename_i a b hx
        simp only [Option.some.injEq, Prod.mk.injEq] at h
        obtain ⟨rfl, rfl, rfl, rfl⟩ := h
        refine Sq.do hgd (fun Γ M Ow ac w hrr => ?_) k
        obtain ⟨q1, hq1⟩ := opV_ok hx hrr
        refine ⟨_, w, ?_, M, Ow, hrr.put (Nat.lt_of_succ_le (Nat.le_of_ble_eq_true hlt)) (.tr _ _ (.sc _ rfl))⟩
        obtain ⟨cal, args, argT⟩ := c
        simp only at hcal hargs
        subst hcal
        have : args = #[ox] := by apply Array.toList_inj.1; simpa using hargs
        subst this
        simp [execOp, resolve, invoke, builtin, run_real, (sc_eval (Γ := Γ) hq1).1]
      · cases h
    · rename_i ox hlt hcal hargs
      split at h
      · rename_i a b hx
        simp only [Option.some.injEq, Prod.mk.injEq] at h
        obtain ⟨rfl, rfl, rfl, rfl⟩ := h
        refine Sq.do hgd (fun Γ M Ow ac w hrr => ?_) k
        obtain ⟨q1, hq1⟩ := opV_ok hx hrr
        refine ⟨_, w, ?_, M, Ow, hrr.put (Nat.lt_of_succ_le (Nat.le_of_ble_eq_true hlt)) (.tr _ _ (.sc _ rfl))⟩
        obtain ⟨cal, args, argT⟩ := c
        simp only at hcal hargs
        subst hcal
        have : args = #[ox] := by apply Array.toList_inj.1; simpa using hargs
        subst this
        simp [execOp, resolve, invoke, builtin, run_imag, (sc_eval (Γ := Γ) hq1).1]
      · cases h
    · cases h
  · cases h
def evF2i (n : Nat) (ops : List Oper) (o : Oper) (m : Store) : Option (TypeId × TypeId × Nat × Nat) := match o.op, o.dst, gOk m ops o.guard with
  | .convert s t x, some d, true => match Nat.blt d n, opV m x with
    | true, some (.tr (.sc (.float .f64 b))) => some (s, t, b, d)
    | _, _ => none
  | _, _, _ => none
theorem Sq.f2i {ops l : List Oper} {o : Oper} {s t : TypeId} {b d : Nat} {v : Int} {K : Store → Prop} (h : evF2i n ops o m = some (s, t, b, d)) (hs : (P.underlying s).isSome = true) (ht : P.underlying t = some (.int .i64)) (hv : floatToIntVal .f64 b .i64 = some v)
    (k : Sq P G n ops l ((.s d, .tr (.sc (.int .i64 v))) :: m) K) : Sq P G n ops (o :: l) m K := by
  obtain ⟨dst, op', type, pos, after, guard⟩ := o
  unfold evF2i at h
  simp only at h
  split at h
  · rename_i s0 t0 ox d' hgd
    split at h
    · rename_i q hlt hx
      simp only [Option.some.injEq, Prod.mk.injEq] at h
      obtain ⟨rfl, rfl, rfl, rfl⟩ := h
      refine Sq.do hgd (fun Γ M Ow a w hrr => ?_) k
      obtain ⟨q1, hq1⟩ := opV_ok hx hrr
      refine ⟨_, w, ?_, M, Ow, hrr.put (Nat.lt_of_succ_le (Nat.le_of_ble_eq_true hlt)) (.tr _ _ (.sc _ rfl))⟩
      simp [execOp, (sc_eval (Γ := Γ) hq1).1, run_convert_float_int w s0 t0 .f64 .i64 _ _ hs ht hv]
    · cases h
  · cases h
def fcmpB (op : BinOp) (x y : Nat) : Option Bool := match op with
  | .eql => some (FloatKind.f64.format.order x y == some .eq)
  | .neq => some (FloatKind.f64.format.order x y != some .eq)
  | .lss => some (FloatKind.f64.format.order x y == some .lt)
  | .leq => some (FloatKind.f64.format.order x y == some .lt || FloatKind.f64.format.order x y == some .eq)
  | .gtr => some (FloatKind.f64.format.order x y == some .gt)
  | .geq => some (FloatKind.f64.format.order x y == some .gt || FloatKind.f64.format.order x y == some .eq)
  | _ => none
def evFcmp (n : Nat) (ops : List Oper) (o : Oper) (m : Store) : Option (BinOp × Nat × Nat × Nat) := match o.op, o.dst, gOk m ops o.guard with
  | .binOp op _ x y _, some d, true => match Nat.blt d n, opV m x, opV m y with
    | true, some (.tr (.sc (.float .f64 a))), some (.tr (.sc (.float .f64 b))) => some (op, a, b, d)
    | _, _, _ => none
  | _, _, _ => none
theorem Sq.fcmp {ops l : List Oper} {o : Oper} {op : BinOp} {x y d : Nat} {b : Bool} {K : Store → Prop} (h : evFcmp n ops o m = some (op, x, y, d)) (hb : fcmpB op x y = some b) (k : Sq P G n ops l ((.s d, .tr (.sc (.bool b))) :: m) K) : Sq P G n ops (o :: l) m K := by
  obtain ⟨dst, op', type, pos, after, guard⟩ := o
  unfold evFcmp at h
  simp only at h
  split at h
  · rename_i op0 ty ox oy ty' d' hgd
    split at h
    · rename_i a b hlt hx hy
      simp only [Option.some.injEq, Prod.mk.injEq] at h
      obtain ⟨rfl, rfl, rfl, rfl⟩ := h
      refine Sq.do hgd (fun Γ M Ow a w hrr => ?_) k
      obtain ⟨q1, hq1⟩ := opV_ok hx hrr
      obtain ⟨q2, hq2⟩ := opV_ok hy hrr
      refine ⟨_, w, ?_, M, Ow, hrr.put (Nat.lt_of_succ_le (Nat.le_of_ble_eq_true hlt)) (.tr _ _ (.sc _ rfl))⟩
      unfold fcmpB at hb
      split at hb <;> first
        | (cases hb; done)
        | (obtain rfl := Option.some.inj hb
           simp [execOp, (sc_eval (Γ := Γ) hq1).1, (sc_eval (Γ := Γ) hq2).1, eqGuard, binOp_float_cmp_eql, binOp_float_cmp_neq, binOp_float_cmp_lss, binOp_float_cmp_leq, binOp_float_cmp_gtr, binOp_float_cmp_geq])
    · cases h
  · cases h
def evExt (n : Nat) (ops : List Oper) (o : Oper) (m : Store) : Option (FuncId × Value × Nat) := match o.op, o.dst, gOk m ops o.guard with
  | .call ⟨.value (.func f), ⟨[x]⟩, _⟩, some d, true => match Nat.blt d n, opV m x with
    | true, some (.tr (.sc c)) => some (f, c, d)
    | _, _ => none
  | _, _, _ => none
theorem Sq.ext {ops l : List Oper} {o : Oper} {f : FuncId} {fn : Func} {e : Array Value → Sem Value} {c u : Value} {d : Nat} {K : Store → Prop} (h : evExt n ops o m = some (f, c, d)) (hf : P.funcs[f]? = some fn) (hname : (fn.name == "runtime.NumGoroutine") = false) (hb : fn.body.isNone = true)
    (hn : Extern.findNext fn = none) (he : Extern.find fn = some e) (hr : ∀ w, (e #[c]).run P w = .ok u w) (h1 : u.oneCell' = true) (k : Sq P G n ops l ((.s d, .tr (.sc u)) :: m) K) : Sq P G n ops (o :: l) m K := by
  obtain ⟨dst, op', type, pos, after, guard⟩ := o
  unfold evExt at h
  simp only at h
  split at h
  · rename_i f0 ox ats d' hgd
    split at h
    · rename_i c0 hlt hx
      simp only [Option.some.injEq, Prod.mk.injEq] at h
      obtain ⟨rfl, rfl, rfl⟩ := h
      refine Sq.do hgd (fun Γ M Ow a w hrr => ?_) k
      obtain ⟨q1, hq1⟩ := opV_ok hx hrr
      refine ⟨u, w, ?_, M, Ow, hrr.put (Nat.lt_of_succ_le (Nat.le_of_ble_eq_true hlt)) (.tr _ _ (.sc _ h1))⟩
      have hfe : a.eval (.func f0) = .func (.func f0) #[] #[] := rfl
      have hcall : (callFunc f0 #[c0]).run P w = .ok (.value u) w := by rw [run_callFunc_extern hf hname hb hn he, hr]; rfl
      simp [execOp, resolve, Deferred.ofValue, hfe, (sc_eval (Γ := Γ) hq1).1, invoke, hcall]
    · cases h
  · cases h
theorem Tr.condC {b : Bool} {x y : Code} {Q : Exit → Store → Prop} (h : Tr P G n (if b then x else y) m Q) : Tr P G n (.cond (.const (.bool b)) x y) m Q := by
  intro Γ hΓ a w hr
  cases b with
  | true => exact wpIn_cond rfl (h Γ hΓ a w hr)
  | false => exact wpIn_cond rfl (h Γ hΓ a w hr)
end
end Go.Lg

set_option linter.unusedVariables false
set_option linter.unusedSimpArgs false
namespace Go.Lg.Sem
open Go
def okF (v : Int) : Bool :=
  fcmpB .geq (floatOfInt .f64 v) 0 == some (decide (0 ≤ v)) && fcmpB .leq (floatOfInt .f64 v) 4697254411347427328 == some true &&
  (match FloatKind.f64.decode (floatOfInt .f64 v) with
    | .nan _ _ => false
    | d => FloatKind.f64.encode (d.integral .zero) == floatOfInt .f64 v) &&
  fcmpB .eql (floatOfInt .f64 v) (floatOfInt .f64 v) == some true && floatToIntVal .f64 (floatOfInt .f64 v) .i64 == some v
set_option maxRecDepth 100000 in
theorem okF_all : (List.range 2004).all (fun k => okF ((k : Int) - 1)) = true := by kernel_rfl
theorem okF_of {v : Int} (h1 : -1 ≤ v) (h2 : v ≤ 2002) : okF v = true := by
  have h := List.all_eq_true.1 okF_all (v + 1).toNat (List.mem_range.2 (by omega))
  have e : (((v + 1).toNat : Nat) : Int) - 1 = v := by omega
  rw [e] at h; exact h
structure OkX (x : Nat) (v : Int) : Prop where
  ge : fcmpB .geq x 0 = some (decide (0 ≤ v))
  le : fcmpB .leq x 4697254411347427328 = some true
  tr : ∀ (P : Program) (name : String) (w : World), (Extern.MathFloor.toIntegral name .zero #[.float .f64 x]).run P w = .ok (.float .f64 x) w
  eq : fcmpB .eql x x = some true
  int : floatToIntVal .f64 x .i64 = some v
theorem OkX.of {v : Int} (h1 : -1 ≤ v) (h2 : v ≤ 2002) : OkX (floatOfInt .f64 v) v := by
  have h := okF_of h1 h2
  unfold okF at h
  simp only [Bool.and_eq_true, beq_iff_eq] at h
  obtain ⟨⟨⟨⟨a, b⟩, c⟩, d⟩, e⟩ := h
  refine ⟨a, b, fun P name w => ?_, d, e⟩
  generalize floatOfInt .f64 v = x at c ⊢
  have e : Extern.MathFloor.toIntegral name .zero #[.float .f64 x] = (match FloatKind.f64.decode x with
    | .nan s t =>
      if FloatKind.f64.format.quiet t = t then pure (.float .f64 x) else do
      let kept ← choose (.extern "math.Floor,Ceil,Trunc,RoundToEven.signallingNaN kept" 2)
      pure (.float .f64 (if kept == 1 then x else FloatKind.f64.encode (.nan s (FloatKind.f64.format.quiet t))))
    | d => pure (.float .f64 (FloatKind.f64.encode (d.integral .zero)))) := rfl
  rw [e]
  generalize FloatKind.f64.decode x = dd at c ⊢
  cases dd with
  | nan s t => exact absurd c (by simp)
  | infinity s =>
    have c : (FloatKind.f64.encode ((Ieee.Datum.infinity s).integral .zero) == x) = true := c
    rw [beq_iff_eq] at c
    show (pure (Value.float .f64 (FloatKind.f64.encode ((Ieee.Datum.infinity s).integral .zero))) : Sem Value).run P w = _
    rw [c]; rfl
  | number s a b =>
    have c : (FloatKind.f64.encode ((Ieee.Datum.number s a b).integral .zero) == x) = true := c
    rw [beq_iff_eq] at c
    show (pure (Value.float .f64 (FloatKind.f64.encode ((Ieee.Datum.number s a b).integral .zero))) : Sem Value).run P w = _
    rw [c]; rfl
end Go.Lg.Sem

set_option linter.unusedVariables false
set_option linter.unusedSimpArgs false
namespace Go.Lg.Tryz
open Go Go.Proofs Go.RowKit Go.Lib Go.Lg.Sem
abbrev flt (x : Nat) : AV := .tr (.sc (.float .f64 x))
abbrev cpl (x y : Nat) : AV := .tr (.sc (.complex .f64 x y))
theorem Trunc_ok (x : Nat) (v : Int) (h : OkX x v) : Fn Tryz.prog Gw 111 [flt x] [] (· = flt x) := by
  refine Fn.of tab_ok Tryz.func111 rfl (by decide) (by simp [Tryz.f111]) rfl (fun κ v h => by cases h) Gw.below ?_
  repeat' (first|refine zS ?_|refine zR ?_|refine zE tab_ok rfl rfl ?_|refine zN ?_|(refine zG rfl rfl (fun _ => ?_) fun _ => ?_)<;>refine zE tab_ok rfl rfl ?_|(refine zC rfl (fun _ => ?_) fun _ => ?_)<;>try (rename_i h; cases h; done)|refine zB ?_|refine zK ?_|refine zZ ⟨_, rfl, ?_⟩)
  refine Tr.condC ?_
  show Tr _ _ _ (.seq _ _) _ _
  repeat' (first|refine zS ?_|refine zR ?_|refine zE tab_ok rfl rfl ?_|refine zN ?_|(refine zG rfl rfl (fun _ => ?_) fun _ => ?_)<;>refine zE tab_ok rfl rfl ?_|(refine zC rfl (fun _ => ?_) fun _ => ?_)<;>try (rename_i h; cases h; done)|refine zB ?_|refine zK ?_|refine zZ ⟨_, rfl, ?_⟩)
  refine Sq.ext rfl Tryz.func124 (by kernel_rfl) (by kernel_rfl) (by kernel_rfl) (show _ = some (Extern.MathFloor.toIntegral "math.archTrunc" .zero) by kernel_rfl) (fun w => h.tr _ _ w) rfl ?_
  repeat' (first|refine zS ?_|refine zR ?_|refine zE tab_ok rfl rfl ?_|refine zN ?_|(refine zG rfl rfl (fun _ => ?_) fun _ => ?_)<;>refine zE tab_ok rfl rfl ?_|(refine zC rfl (fun _ => ?_) fun _ => ?_)<;>try (rename_i h; cases h; done)|refine zB ?_|refine zK ?_|refine zZ ⟨_, rfl, ?_⟩)
  rfl
theorem whole_ok (x : Nat) (v : Int) (h : OkX x v) : Fn Tryz.prog Gw 102 [flt x, .tr (.sc (.float .f64 0))] [] (· = bool (decide (0 ≤ v))) := by
  have hT := Trunc_ok x v h
  refine Fn.of tab_ok Tryz.func102 rfl (by decide) (by simp [Tryz.f102]) rfl (fun κ v h => by cases h) Gw.below ?_
  repeat' (first|refine zS ?_|refine zR ?_|refine zE tab_ok rfl rfl ?_|refine zN ?_|(refine zG rfl rfl (fun _ => ?_) fun _ => ?_)<;>refine zE tab_ok rfl rfl ?_|(refine zC rfl (fun _ => ?_) fun _ => ?_)<;>try (rename_i h; cases h; done)|refine zB ?_|refine zK ?_|refine zZ ⟨_, rfl, ?_⟩)
  refine Sq.fcmp rfl h.ge ?_
  refine zE tab_ok rfl rfl ?_
  by_cases hv : 0 ≤ v
  · rw [decide_eq_true hv]
    repeat' (first|refine zS ?_|refine zR ?_|refine zE tab_ok rfl rfl ?_|refine zN ?_|(refine zG rfl rfl (fun _ => ?_) fun _ => ?_)<;>refine zE tab_ok rfl rfl ?_|(refine zC rfl (fun _ => ?_) fun _ => ?_)<;>try (rename_i h; cases h; done)|refine zB ?_|refine zK ?_|refine zZ ⟨_, rfl, ?_⟩)
    refine Sq.fcmp rfl h.le ?_
    repeat' (first|refine zS ?_|refine zR ?_|refine zE tab_ok rfl rfl ?_|refine zN ?_|(refine zG rfl rfl (fun _ => ?_) fun _ => ?_)<;>refine zE tab_ok rfl rfl ?_|(refine zC rfl (fun _ => ?_) fun _ => ?_)<;>try (rename_i h; cases h; done)|refine zB ?_|refine zK ?_|refine zZ ⟨_, rfl, ?_⟩)
    refine Sq.callv rfl (hT) ?_
    refine Sq.fcmp rfl h.eq ?_
    repeat' (first|refine zS ?_|refine zR ?_|refine zE tab_ok rfl rfl ?_|refine zN ?_|(refine zG rfl rfl (fun _ => ?_) fun _ => ?_)<;>refine zE tab_ok rfl rfl ?_|(refine zC rfl (fun _ => ?_) fun _ => ?_)<;>try (rename_i h; cases h; done)|refine zB ?_|refine zK ?_|refine zZ ⟨_, rfl, ?_⟩)
    rfl
  · rw [decide_eq_false hv]
    repeat' (first|refine zS ?_|refine zR ?_|refine zE tab_ok rfl rfl ?_|refine zN ?_|(refine zG rfl rfl (fun _ => ?_) fun _ => ?_)<;>refine zE tab_ok rfl rfl ?_|(refine zC rfl (fun _ => ?_) fun _ => ?_)<;>try (rename_i h; cases h; done)|refine zB ?_|refine zK ?_|refine zZ ⟨_, rfl, ?_⟩)
    rfl
theorem place_ok (x y : Nat) (v f : Int) (h1 : OkX x v) (h2 : OkX y f) : Fn Tryz.prog Gw 90 [cpl x y] [] (· = bool (decide (0 ≤ v) && decide (0 ≤ f))) := by
  have hv := whole_ok x v h1
  have hf := whole_ok y f h2
  refine Fn.of tab_ok Tryz.func90 rfl (by decide) (by simp [Tryz.f90]) rfl (fun κ v h => by cases h) Gw.below ?_
  repeat' (first|refine zS ?_|refine zR ?_|refine zE tab_ok rfl rfl ?_|refine zN ?_|(refine zG rfl rfl (fun _ => ?_) fun _ => ?_)<;>refine zE tab_ok rfl rfl ?_|(refine zC rfl (fun _ => ?_) fun _ => ?_)<;>try (rename_i h; cases h; done)|refine zB ?_|refine zK ?_|refine zZ ⟨_, rfl, ?_⟩)
  refine Sq.reim (r := true) rfl ?_
  refine Sq.callv rfl (hv) ?_
  refine zE tab_ok rfl rfl ?_
  cases decide (0 ≤ v)
  · repeat' (first|refine zS ?_|refine zR ?_|refine zE tab_ok rfl rfl ?_|refine zN ?_|(refine zG rfl rfl (fun _ => ?_) fun _ => ?_)<;>refine zE tab_ok rfl rfl ?_|(refine zC rfl (fun _ => ?_) fun _ => ?_)<;>try (rename_i h; cases h; done)|refine zB ?_|refine zK ?_|refine zZ ⟨_, rfl, ?_⟩)
    rfl
  · repeat' (first|refine zS ?_|refine zR ?_|refine zE tab_ok rfl rfl ?_|refine zN ?_|(refine zG rfl rfl (fun _ => ?_) fun _ => ?_)<;>refine zE tab_ok rfl rfl ?_|(refine zC rfl (fun _ => ?_) fun _ => ?_)<;>try (rename_i h; cases h; done)|refine zB ?_|refine zK ?_|refine zZ ⟨_, rfl, ?_⟩)
    refine Sq.reim (r := false) rfl ?_
    refine Sq.callv rfl (hf) ?_
    repeat' (first|refine zS ?_|refine zR ?_|refine zE tab_ok rfl rfl ?_|refine zN ?_|(refine zG rfl rfl (fun _ => ?_) fun _ => ?_)<;>refine zE tab_ok rfl rfl ?_|(refine zC rfl (fun _ => ?_) fun _ => ?_)<;>try (rename_i h; cases h; done)|refine zB ?_|refine zK ?_|refine zZ ⟨_, rfl, ?_⟩)
    rfl
theorem Parts_ok (x y : Nat) (v f : Int) (h1 : OkX x v) (h2 : OkX y f) : Fn Tryz.prog Gw 69 [cpl x y] [] (· = if 0 ≤ v ∧ 0 ≤ f then .tup [int v, int f, int 0] else .tup [int 0, int 0, int 12]) := by
  have hp := place_ok x y v f h1 h2
  refine Fn.of tab_ok Tryz.func69 rfl (by decide) (by simp [Tryz.f69]) rfl (fun κ v h => by cases h) Gw.below ?_
  repeat' (first|refine zS ?_|refine zR ?_|refine zE tab_ok rfl rfl ?_|refine zN ?_|(refine zG rfl rfl (fun _ => ?_) fun _ => ?_)<;>refine zE tab_ok rfl rfl ?_|(refine zC rfl (fun _ => ?_) fun _ => ?_)<;>try (rename_i h; cases h; done)|refine zB ?_|refine zK ?_|refine zZ ⟨_, rfl, ?_⟩)
  by_cases h : 0 ≤ v ∧ 0 ≤ f
  · rw [if_pos h]
    rw [decide_eq_true h.1, decide_eq_true h.2] at hp
    refine Sq.callv rfl (hp) ?_
    repeat' (first|refine zS ?_|refine zR ?_|refine zE tab_ok rfl rfl ?_|refine zN ?_|(refine zG rfl rfl (fun _ => ?_) fun _ => ?_)<;>refine zE tab_ok rfl rfl ?_|(refine zC rfl (fun _ => ?_) fun _ => ?_)<;>try (rename_i h; cases h; done)|refine zB ?_|refine zK ?_|refine zZ ⟨_, rfl, ?_⟩)
    refine Sq.reim (r := true) rfl ?_
    refine Sq.f2i rfl (by rw [Tryz.underlying150]; rfl) Tryz.underlying3 h1.int ?_
    repeat' (first|refine zS ?_|refine zR ?_|refine zE tab_ok rfl rfl ?_|refine zN ?_|(refine zG rfl rfl (fun _ => ?_) fun _ => ?_)<;>refine zE tab_ok rfl rfl ?_|(refine zC rfl (fun _ => ?_) fun _ => ?_)<;>try (rename_i h; cases h; done)|refine zB ?_|refine zK ?_|refine zZ ⟨_, rfl, ?_⟩)
    refine Sq.reim (r := false) rfl ?_
    refine Sq.f2i rfl (by rw [Tryz.underlying150]; rfl) Tryz.underlying3 h2.int ?_
    repeat' (first|refine zS ?_|refine zR ?_|refine zE tab_ok rfl rfl ?_|refine zN ?_|(refine zG rfl rfl (fun _ => ?_) fun _ => ?_)<;>refine zE tab_ok rfl rfl ?_|(refine zC rfl (fun _ => ?_) fun _ => ?_)<;>try (rename_i h; cases h; done)|refine zB ?_|refine zK ?_|refine zZ ⟨_, rfl, ?_⟩)
    rfl
  · rw [if_neg h]
    have e : (decide (0 ≤ v) && decide (0 ≤ f)) = false := by
      rw [← Bool.not_eq_true, Bool.and_eq_true, decide_eq_true_eq, decide_eq_true_eq]; exact h
    rw [e] at hp
    refine Sq.callv rfl (hp) ?_
    repeat' (first|refine zS ?_|refine zR ?_|refine zE tab_ok rfl rfl ?_|refine zN ?_|(refine zG rfl rfl (fun _ => ?_) fun _ => ?_)<;>refine zE tab_ok rfl rfl ?_|(refine zC rfl (fun _ => ?_) fun _ => ?_)<;>try (rename_i h; cases h; done)|refine zB ?_|refine zK ?_|refine zZ ⟨_, rfl, ?_⟩)
    rfl
def standsB (c : Ctl) (i v f : Int) : Bool := decide (0 ≤ i) && decide (0 ≤ f) && match relAt c i v with
  | some r => decide (-1 ≤ f - 2 * r.level) && decide (f - 2 * r.level ≤ 1)
  | none => false
theorem stands_none {c : Ctl} {i v f : Int} (h : relAt c i v = none) : standsB c i v f = false := by
  unfold standsB; rw [h]; simp
theorem Stands_ok {c : Ctl} (hr : ∀ s, s ∈ c → ∀ r, r ∈ s.rels → 0 ≤ r.level ∧ r.level ≤ 1000) (i : Int) (x y : Nat) (v f : Int) (h1 : OkX x v) (h2 : OkX y f) (hf : f ≤ 100000) :
    Fn Tryz.prog Gw 77 [.tr (ctlT c), int i, cpl x y] [] (· = bool (standsB c i v f)) := by
  have hp := Parts_ok x y v f h1 h2
  refine Fn.of tab_ok Tryz.func77 rfl (by decide) (by simp [Tryz.f77]) rfl (fun κ v h => by cases h) Gw.below ?_
  repeat' (first|refine zS ?_|refine zR ?_|refine zE tab_ok rfl rfl ?_|refine zN ?_|(refine zG rfl rfl (fun _ => ?_) fun _ => ?_)<;>refine zE tab_ok rfl rfl ?_|(refine zC rfl (fun _ => ?_) fun _ => ?_)<;>try (rename_i h; cases h; done)|refine zB ?_|refine zK ?_|refine zZ ⟨_, rfl, ?_⟩)
  by_cases h : 0 ≤ v ∧ 0 ≤ f
  case neg =>
    rw [if_neg h] at hp
    refine Sq.callv rfl (hp) ?_
    repeat' (first|refine zS ?_|refine zR ?_|refine zE tab_ok rfl rfl ?_|refine zN ?_|(refine zG rfl rfl (fun _ => ?_) fun _ => ?_)<;>refine zE tab_ok rfl rfl ?_|(refine zC rfl (fun _ => ?_) fun _ => ?_)<;>try (rename_i h; cases h; done)|refine zB ?_|refine zK ?_|refine zZ ⟨_, rfl, ?_⟩)
    have : standsB c i v f = false := by
      unfold standsB
      by_cases hf : 0 ≤ f
      · rw [relAt_neg (by omega)]; simp
      · rw [decide_eq_false hf]; simp
    rw [this]
  rw [if_pos h] at hp
  refine Sq.callv rfl (hp) ?_
  repeat' (first|refine zS ?_|refine zR ?_|refine zE tab_ok rfl rfl ?_|refine zN ?_|(refine zG rfl rfl (fun _ => ?_) fun _ => ?_)<;>refine zE tab_ok rfl rfl ?_|(refine zC rfl (fun _ => ?_) fun _ => ?_)<;>try (rename_i h; cases h; done)|refine zB ?_|refine zK ?_|refine zZ ⟨_, rfl, ?_⟩)
  · rename_i h3 _
    have h3 := of_decide_eq_true h3
    have : standsB c i v f = false := by unfold standsB; rw [decide_eq_false (by omega)]; rfl
    rw [this]
  · rename_i h3 h4 _
    have h3 := of_decide_eq_false h3
    have h4 : decide (i ≥ ((c.map svcT).length : Int)) = true := h4
    rw [List.length_map] at h4
    have h4 := of_decide_eq_true h4
    rw [stands_none (by unfold relAt; rw [List.getElem?_eq_none (by omega)])]
  rename_i h3 h4
  have h3 := of_decide_eq_false h3
  have h4 : decide (i ≥ ((c.map svcT).length : Int)) = false := h4
  rw [List.length_map] at h4
  have h4 := of_decide_eq_false h4
  obtain ⟨s, hs⟩ : ∃ s, c[i.toNat]? = some s := ⟨_, List.getElem?_eq_getElem (by omega)⟩
  have hsm : s ∈ c := List.mem_of_getElem? hs
  have hse : (c.map svcT)[i.toNat]? = some (svcT s) := by simp [hs]
  refine zI (x := svcT s) tab_ok rfl (by omega) (hse) rfl ?_
  repeat' (first|refine zS ?_|refine zR ?_|refine zE tab_ok rfl rfl ?_|refine zN ?_|(refine zG rfl rfl (fun _ => ?_) fun _ => ?_)<;>refine zE tab_ok rfl rfl ?_|(refine zC rfl (fun _ => ?_) fun _ => ?_)<;>try (rename_i h; cases h; done)|refine zB ?_|refine zK ?_|refine zZ ⟨_, rfl, ?_⟩)
  · rename_i h5
    have h5 : decide (v ≥ ((s.rels.map rlsT).length : Int)) = true := h5
    rw [List.length_map] at h5
    have h5 := of_decide_eq_true h5
    rw [stands_none (by rw [relAt_pos hs (by omega)]; exact List.getElem?_eq_none (by omega))]
  rename_i h5
  have h5 : decide (v ≥ ((s.rels.map rlsT).length : Int)) = false := h5
  rw [List.length_map] at h5
  have h5 := of_decide_eq_false h5
  obtain ⟨r, hrr⟩ : ∃ r, s.rels[v.toNat]? = some r := ⟨_, List.getElem?_eq_getElem (by omega)⟩
  have hre : (s.rels.map rlsT)[v.toNat]? = some (rlsT r) := by simp [hrr]
  obtain ⟨l0, l1⟩ := hr s hsm r (List.mem_of_getElem? hrr)
  have hB : standsB c i v f = (decide (-1 ≤ f - 2 * r.level) && decide (f - 2 * r.level ≤ 1)) := by
    unfold standsB; rw [relAt_pos hs (by omega), hrr, decide_eq_true (by omega), decide_eq_true h.2]; rfl
  rw [hB]
  refine zI (x := svcT s) tab_ok rfl (by omega) (hse) rfl ?_
  repeat' (first|refine zS ?_|refine zR ?_|refine zE tab_ok rfl rfl ?_|refine zN ?_|(refine zG rfl rfl (fun _ => ?_) fun _ => ?_)<;>refine zE tab_ok rfl rfl ?_|(refine zC rfl (fun _ => ?_) fun _ => ?_)<;>try (rename_i h; cases h; done)|refine zB ?_|refine zK ?_|refine zZ ⟨_, rfl, ?_⟩)
  refine zI (x := rlsT r) tab_ok rfl (by omega) (hre) rfl ?_
  repeat' (first|refine zS ?_|refine zR ?_|refine zE tab_ok rfl rfl ?_|refine zN ?_|(refine zG rfl rfl (fun _ => ?_) fun _ => ?_)<;>refine zE tab_ok rfl rfl ?_|(refine zC rfl (fun _ => ?_) fun _ => ?_)<;>try (rename_i h; cases h; done)|refine zB ?_|refine zK ?_|refine zZ ⟨_, rfl, ?_⟩)
  all_goals
    have hw : IntKind.i64.wrap (f - IntKind.i64.wrap (2 * r.level)) = f - 2 * r.level := by
      rw [Go.IntWalk.i64_in (2 * r.level) ⟨by omega, by omega⟩, Go.IntWalk.i64_in _ ⟨by omega, by omega⟩]
  · rename_i h6
    rw [hw] at h6 ⊢
    have h6 := of_decide_eq_true h6
    rw [decide_eq_true (show -1 ≤ f - 2 * r.level by omega)]; rfl
  · rename_i h6
    rw [hw] at h6
    have h6 := of_decide_eq_false h6
    rw [decide_eq_false (show ¬ -1 ≤ f - 2 * r.level by omega)]; rfl
structure Pl where
  x : Nat
  y : Nat
  v : Int
  f : Int
def Pl.ok (p : Pl) : Prop := OkX p.x p.v ∧ OkX p.y p.f ∧ p.f ≤ 100000
abbrev plT (p : Pl) : T := .sc (.complex .f64 p.x p.y)
def goodAt (c : Ctl) (l : List Pl) (i : Nat) : Bool := match l[i]? with
  | some p => standsB c i p.v p.f && (List.range i).all fun j => match l[j]? with
    | some q => fitsB c i p.v j q.v
    | none => true
  | none => true
def goodB (c : Ctl) (l : List Pl) : Bool := decide (l.length = c.length) && (List.range l.length).all (goodAt c l)
theorem Good_ok {c : Ctl} (h : Ctl.ok c) (hr : ∀ s, s ∈ c → ∀ r, r ∈ s.rels → 0 ≤ r.level ∧ r.level ≤ 1000) (hc : c.length ≤ 1000000) (l : List Pl) (hl : ∀ p, p ∈ l → p.ok) :
    Fn Tryz.prog Gw 41 [.tr (ctlT c), .tr (.ls (l.map plT))] [] (· = bool (goodB c l)) := by
  by_cases hlc : l.length = c.length
  case neg =>
    have : goodB c l = false := by unfold goodB; rw [decide_eq_false hlc]; rfl
    rw [this]
    refine Fn.of tab_ok Tryz.func41 rfl (by decide) (by simp [Tryz.f41]) rfl (fun κ v h => by cases h) Gw.below ?_
    repeat' (first|refine zS ?_|refine zR ?_|refine zE tab_ok rfl rfl ?_|refine zN ?_|(refine zG rfl rfl (fun _ => ?_) fun _ => ?_)<;>refine zE tab_ok rfl rfl ?_|(refine zC rfl (fun _ => ?_) fun _ => ?_)<;>try (rename_i h; cases h; done)|refine zB ?_|refine zK ?_|refine zZ ⟨_, rfl, ?_⟩)
    · rfl
    · rename_i h; exfalso
      have h : (((l.map plT).length : Int) != ((c.map svcT).length : Int)) = false := h
      rw [List.length_map, List.length_map] at h
      simp at h; omega
  have hG : goodB c l = (List.range l.length).all (goodAt c l) := by unfold goodB; rw [decide_eq_true hlc]; rfl
  refine Fn.of tab_ok Tryz.func41 rfl (by decide) (by simp [Tryz.f41]) rfl (fun κ v h => by cases h) Gw.below ?_
  repeat' (first|refine zS ?_|refine zR ?_|refine zE tab_ok rfl rfl ?_|refine zN ?_|(refine zG rfl rfl (fun _ => ?_) fun _ => ?_)<;>refine zE tab_ok rfl rfl ?_|(refine zC rfl (fun _ => ?_) fun _ => ?_)<;>try (rename_i h; cases h; done)|refine zB ?_|refine zK ?_|refine zZ ⟨_, rfl, ?_⟩)
  · rename_i h; exfalso
    have h : (((l.map plT).length : Int) != ((c.map svcT).length : Int)) = true := h
    rw [List.length_map, List.length_map] at h
    simp at h; omega
  refine Tr.loopS (fun i : Nat => [(.s 1, .tr (.ls (l.map plT))), (.s 2, .ptr (.l 2) 0), (.l 2, .blk 24 [.tr (.ls (c.map svcT))]), (.s 15, .tr (.ls (l.map plT))), (.s 16, int (l.map plT).length), (.s 17, int i)]) (fun i => l.length - i)
    (fun i => i ≤ l.length ∧ (List.range i).all (goodAt c l) = true) 0 ⟨by omega, rfl⟩ (Sub.app (l := [_, _, _, _, _, _]) (H := []) ⟨rfl, rfl, rfl, rfl, rfl, rfl, trivial⟩ (fun κ v h => nomatch h)) ?_
  rintro i ⟨hi, hp⟩
  repeat' (first|refine zS ?_|refine zR ?_|refine zE tab_ok rfl rfl ?_|refine zN ?_|(refine zG rfl rfl (fun _ => ?_) fun _ => ?_)<;>refine zE tab_ok rfl rfl ?_|(refine zC rfl (fun _ => ?_) fun _ => ?_)<;>try (rename_i h; cases h; done)|refine zB ?_|refine zK ?_|refine zZ ⟨_, rfl, ?_⟩)
  · rename_i h2
    have hlt : i < l.length := by simp only [List.length_map, decide_eq_true_eq] at h2; omega
    obtain ⟨p, hpi⟩ : ∃ p, l[i]? = some p := ⟨_, List.getElem?_eq_getElem hlt⟩
    have hpe : (l.map plT)[((i : Nat) : Int).toNat]? = some (plT p) := by simp [hpi]
    obtain ⟨px, py, pf⟩ := hl p (List.mem_of_getElem? hpi)
    have hS := Stands_ok hr (i : Int) p.x p.y p.v p.f px py pf
    have hA : goodAt c l i = (standsB c i p.v p.f && (List.range i).all fun j => match l[j]? with | some q => fitsB c i p.v j q.v | none => true) := by unfold goodAt; rw [hpi]
    have bad : goodAt c l i = false → goodB c l = false := fun hb => by
      rw [hG, ← Bool.not_eq_true, List.all_eq_true]
      intro hh
      rw [hh i (List.mem_range.2 hlt)] at hb; cases hb
    refine zI (x := plT p) tab_ok rfl (by omega) (hpe) rfl ?_
    repeat' (first|refine zS ?_|refine zR ?_|refine zE tab_ok rfl rfl ?_|refine zN ?_|(refine zG rfl rfl (fun _ => ?_) fun _ => ?_)<;>refine zE tab_ok rfl rfl ?_|(refine zC rfl (fun _ => ?_) fun _ => ?_)<;>try (rename_i h; cases h; done)|refine zB ?_|refine zK ?_|refine zZ ⟨_, rfl, ?_⟩)
    cases hst : standsB c i p.v p.f
    · rw [hst] at hS hA
      refine Sq.callv rfl (hS) ?_
      repeat' (first|refine zS ?_|refine zR ?_|refine zE tab_ok rfl rfl ?_|refine zN ?_|(refine zG rfl rfl (fun _ => ?_) fun _ => ?_)<;>refine zE tab_ok rfl rfl ?_|(refine zC rfl (fun _ => ?_) fun _ => ?_)<;>try (rename_i h; cases h; done)|refine zB ?_|refine zK ?_|refine zZ ⟨_, rfl, ?_⟩)
      rw [bad (by rw [hA]; rfl)]
    rw [hst] at hS hA
    rw [Bool.true_and] at hA
    refine Sq.callv rfl (hS) ?_
    repeat' (first|refine zS ?_|refine zR ?_|refine zE tab_ok rfl rfl ?_|refine zN ?_|(refine zG rfl rfl (fun _ => ?_) fun _ => ?_)<;>refine zE tab_ok rfl rfl ?_|(refine zC rfl (fun _ => ?_) fun _ => ?_)<;>try (rename_i h; cases h; done)|refine zB ?_|refine zK ?_|refine zZ ⟨_, rfl, ?_⟩)
    refine Sq.part tab_ok rfl (fun x hx => by obtain ⟨a, _, rfl⟩ := List.mem_map.1 hx; rfl) (by simp [Bd.lo]) (by simp [Bd.lo, Bd.hi]) (by simp [Bd.hi]; omega) ?_
    refine Sq.re (v' := .tr (.ls ((l.take i).map plT))) (by simp [Bd.lo, Bd.hi, List.map_take]) ?_
    repeat' (first|refine zS ?_|refine zR ?_|refine zE tab_ok rfl rfl ?_|refine zN ?_|(refine zG rfl rfl (fun _ => ?_) fun _ => ?_)<;>refine zE tab_ok rfl rfl ?_|(refine zC rfl (fun _ => ?_) fun _ => ?_)<;>try (rename_i h; cases h; done)|refine zB ?_|refine zK ?_|refine zZ ⟨_, rfl, ?_⟩)
    have hti : (l.take i).length = i := by rw [List.length_take]; omega
    have hat : ∀ j, j < i → (l.take i)[j]? = l[j]? := fun j hj => by rw [List.getElem?_take, if_pos hj]
    refine Tr.loopS (fun j : Nat => [(.s 1, .tr (.ls (l.map plT))), (.s 2, .ptr (.l 2) 0), (.l 2, .blk 24 [.tr (.ls (c.map svcT))]), (.s 15, .tr (.ls (l.map plT))), (.s 16, int (l.map plT).length), (.s 17, int i), (.s 5, int i), (.s 6, .tr (plT p)), (.s 29, .tr (.ls ((l.take i).map plT))), (.s 30, int ((l.take i).map plT).length), (.s 31, int j)]) (fun j => i - j)
      (fun j => j ≤ i ∧ (List.range j).all (fun j => match l[j]? with | some q => fitsB c i p.v j q.v | none => true) = true) 0 ⟨by omega, rfl⟩ (Sub.app (l := [_, _, _, _, _, _, _, _, _, _, _]) (H := []) ⟨rfl, rfl, rfl, rfl, rfl, rfl, rfl, rfl, rfl, rfl, rfl, trivial⟩ (fun κ v h => nomatch h)) ?_
    rintro j ⟨hj, hq⟩
    repeat' (first|refine zS ?_|refine zR ?_|refine zE tab_ok rfl rfl ?_|refine zN ?_|(refine zG rfl rfl (fun _ => ?_) fun _ => ?_)<;>refine zE tab_ok rfl rfl ?_|(refine zC rfl (fun _ => ?_) fun _ => ?_)<;>try (rename_i h; cases h; done)|refine zB ?_|refine zK ?_|refine zZ ⟨_, rfl, ?_⟩)
    · rename_i h3
      have h3 : decide ((j : Int) < (((l.take i).map plT).length : Int)) = true := h3
      rw [List.length_map, hti] at h3
      have h3 := of_decide_eq_true h3
      obtain ⟨q, hqj⟩ : ∃ q, l[j]? = some q := ⟨_, List.getElem?_eq_getElem (by omega)⟩
      have hqe : ((l.take i).map plT)[((j : Nat) : Int).toNat]? = some (plT q) := by rw [Int.toNat_natCast, List.getElem?_map, hat j (by omega), hqj]; rfl
      obtain ⟨qx, qy, qf⟩ := hl q (List.mem_of_getElem? hqj)
      have hF := Fits_ok h (i : Int) p.v (j : Int) q.v
      refine zI (x := plT q) tab_ok rfl (by omega) (hqe) rfl ?_
      repeat' (first|refine zS ?_|refine zR ?_|refine zE tab_ok rfl rfl ?_|refine zN ?_|(refine zG rfl rfl (fun _ => ?_) fun _ => ?_)<;>refine zE tab_ok rfl rfl ?_|(refine zC rfl (fun _ => ?_) fun _ => ?_)<;>try (rename_i h; cases h; done)|refine zB ?_|refine zK ?_|refine zZ ⟨_, rfl, ?_⟩)
      refine Sq.reim (r := true) rfl ?_
      refine Sq.f2i rfl (by rw [Tryz.underlying150]; rfl) Tryz.underlying3 px.int ?_
      repeat' (first|refine zS ?_|refine zR ?_|refine zE tab_ok rfl rfl ?_|refine zN ?_|(refine zG rfl rfl (fun _ => ?_) fun _ => ?_)<;>refine zE tab_ok rfl rfl ?_|(refine zC rfl (fun _ => ?_) fun _ => ?_)<;>try (rename_i h; cases h; done)|refine zB ?_|refine zK ?_|refine zZ ⟨_, rfl, ?_⟩)
      refine Sq.reim (r := true) rfl ?_
      refine Sq.f2i rfl (by rw [Tryz.underlying150]; rfl) Tryz.underlying3 qx.int ?_
      cases hb : fitsB c i p.v j q.v
      · rw [hb] at hF
        refine Sq.callv rfl (hF) ?_
        repeat' (first|refine zS ?_|refine zR ?_|refine zE tab_ok rfl rfl ?_|refine zN ?_|(refine zG rfl rfl (fun _ => ?_) fun _ => ?_)<;>refine zE tab_ok rfl rfl ?_|(refine zC rfl (fun _ => ?_) fun _ => ?_)<;>try (rename_i h; cases h; done)|refine zB ?_|refine zK ?_|refine zZ ⟨_, rfl, ?_⟩)
        rw [bad (by
          rw [hA, ← Bool.not_eq_true, List.all_eq_true]
          intro hh
          have := hh j (List.mem_range.2 (by omega))
          rw [hqj] at this
          simp only at this
          rw [hb] at this; cases this)]
      · rw [hb] at hF
        refine Sq.callv rfl (hF) ?_
        repeat' (first|refine zS ?_|refine zR ?_|refine zE tab_ok rfl rfl ?_|refine zN ?_|(refine zG rfl rfl (fun _ => ?_) fun _ => ?_)<;>refine zE tab_ok rfl rfl ?_|(refine zC rfl (fun _ => ?_) fun _ => ?_)<;>try (rename_i h; cases h; done)|refine zB ?_|refine zK ?_|refine zZ ⟨_, rfl, ?_⟩)
        exact ⟨j + 1, ⟨by omega, by rw [List.range_succ, List.all_append, hq]; simp [hqj, hb]⟩, by omega, Sub.app (l := [_, _, _, _, _, _, _, _, _, _, _]) (H := []) ⟨rfl, rfl, rfl, rfl, rfl, rfl, rfl, rfl, rfl, rfl, congrArg some (wrapz (by omega) (by omega) (by omega)), trivial⟩ (fun κ v h => nomatch h)⟩
    · rename_i h3
      have h3 : decide ((j : Int) < (((l.take i).map plT).length : Int)) = false := h3
      rw [List.length_map, hti] at h3
      have h3 := of_decide_eq_false h3
      have : j = i := by omega
      subst this
      refine Tr.exit ?_
      repeat' (first|refine zS ?_|refine zR ?_|refine zE tab_ok rfl rfl ?_|refine zN ?_|(refine zG rfl rfl (fun _ => ?_) fun _ => ?_)<;>refine zE tab_ok rfl rfl ?_|(refine zC rfl (fun _ => ?_) fun _ => ?_)<;>try (rename_i h; cases h; done)|refine zB ?_|refine zK ?_|refine zZ ⟨_, rfl, ?_⟩)
      exact ⟨j + 1, ⟨by omega, by rw [List.range_succ, List.all_append, hp]; simp [hA, hq]⟩, by omega, Sub.app (l := [_, _, _, _, _, _]) (H := []) ⟨rfl, rfl, rfl, rfl, rfl, congrArg some (wrapz (by omega) (by omega) (by omega)), trivial⟩ (fun κ v h => nomatch h)⟩
  · rename_i h2
    have : i = l.length := by simp only [List.length_map, decide_eq_false_iff_not] at h2; omega
    subst this
    refine Tr.exit ?_
    repeat' (first|refine zS ?_|refine zR ?_|refine zE tab_ok rfl rfl ?_|refine zN ?_|(refine zG rfl rfl (fun _ => ?_) fun _ => ?_)<;>refine zE tab_ok rfl rfl ?_|(refine zC rfl (fun _ => ?_) fun _ => ?_)<;>try (rename_i h; cases h; done)|refine zB ?_|refine zK ?_|refine zZ ⟨_, rfl, ?_⟩)
    rw [hG, hp]
end Go.Lg.Tryz

set_option linter.unusedVariables false
set_option linter.unusedSimpArgs false
namespace Go.Lg.Tryz
open Go Go.Proofs Go.RowKit Go.Lib Go.Lg.Sem
def vN (k : Int) : Ver := ⟨k, 0, 0, ⟨#[]⟩⟩
def exN (op : Int) : List Nd := [⟨0, [[⟨op, if op > 0 then vN 1 else vN 0⟩]]⟩]
def exC : Ctl := [⟨⟨#[97]⟩, [⟨vN 1, 0, []⟩, ⟨vN 2, 0, []⟩]⟩, ⟨⟨#[98]⟩, [⟨vN 1, 0, exN 6⟩, ⟨vN 2, 0, exN 0⟩]⟩]
theorem exC_ok : Ctl.ok exC := ctl_ok (by decide +kernel)
theorem exC_lv : ∀ s, s ∈ exC → s.rels.length ≤ 12 ∧ ∀ r, r ∈ s.rels → 0 ≤ r.level ∧ r.level ≤ 1000 := by
  intro s hs
  simp only [exC, List.mem_cons, List.not_mem_nil, or_false] at hs
  rcases hs with rfl | rfl <;> refine ⟨by decide, fun r hr => ?_⟩ <;> simp only [List.mem_cons, List.not_mem_nil, or_false] at hr <;> rcases hr with rfl | rfl <;> exact ⟨by decide, by decide⟩
theorem edges_p (c : Ctl) : ∀ p, p ∈ edges c → p.1 < c.length ∧ p.2 < c.length := fun p hp => ⟨(edges_mem.1 hp).1, (edges_mem.1 hp).2.1⟩
theorem edges_l {c : Ctl} (h : c.length ≤ 12) : (edges c).length ≤ 4096 := by
  have := edges_len c
  have : c.length * c.length ≤ 12 * 12 := Nat.mul_le_mul h h
  omega
theorem catRight_ok (c : Ctl) {cyc : Bool} (hc : cyc = true ↔ CycP c.length (edges c)) : Fn Tryz.prog Gw 13 [.tr (ctlT c)] [] (MadeRt c (smallC c && ((checkV c cyc).2.2 == 0))) :=
  madeRight_ok c cyc (fun hl => Circle_ok _ _ (by omega) (edges_l hl) (edges_p c) cyc hc)
theorem cyc_ex (c : Ctl) : ∃ cyc : Bool, cyc = true ↔ CycP c.length (edges c) := by
  classical exact ⟨decide (CycP c.length (edges c)), by simp⟩
end Go.Lg.Tryz

set_option linter.unusedVariables false
set_option linter.unusedSimpArgs false
namespace Go.Lg.Tryz
open Go Go.Proofs Go.RowKit Go.Lib Go.Lg.Sem
theorem eqA_int (d : Nat) (x y : Int) (w : World) : (Op.equalIn (d + 1) 3 (.int .i64 x) (.int .i64 y)).run Tryz.prog w = .ok (x == y) w := by
  simp [Op.equalIn, run_underlying Tryz.underlying3]
theorem eqA_two (e : Nat) (x0 x1 : Int) (w : World) (hi : ∀ x w, (Op.equalIn e 3 (.int .i64 x) (.int .i64 x)).run Tryz.prog w = .ok true w) :
    (Op.equalIn (e + 1) 66 (.agg #[.int .i64 x0, .int .i64 x1]) (.agg #[.int .i64 x0, .int .i64 x1])).run Tryz.prog w = .ok true w := by
  have hz : ∀ w, (sizeOf 3).run Tryz.prog w = .ok 1 w := fun w => by go_simp
  have h0 : ∀ w, (part 3 #[Value.int .i64 x0, Value.int .i64 x1] 0).run Tryz.prog w = .ok (.int .i64 x0) w := fun w => by go_simp
  have h1 : ∀ w, (part 3 #[Value.int .i64 x0, Value.int .i64 x1] 1).run Tryz.prog w = .ok (.int .i64 x1) w := fun w => by go_simp
  simp [Op.equalIn, run_underlying Tryz.underlying66, hz, List.range', h0, h1, hi]
theorem eqA_ed (d : Nat) (x0 x1 : Int) (w : World) :
    (Op.equalIn (d + 2) 66 (.agg #[.int .i64 x0, .int .i64 x1]) (.agg #[.int .i64 x0, .int .i64 x1])).run Tryz.prog w = .ok true w :=
  eqA_two (d + 1) x0 x1 w (fun x w => by rw [eqA_int]; simp)
theorem right_of {c : Ctl} {cyc : Bool} (h : (checkV c cyc).2.2 = 0) : 1 ≤ c.length ∧ c.length ≤ 12 ∧ cyc = false ∧ ∀ i, i < c.length → (svcE c i).2.2 = 0 := by
  have h0 : ¬ (c.length < 1 ∨ c.length > 12) := fun h0 => by unfold checkV at h; rw [if_pos h0] at h; cases h
  have hall : ∀ i, i < c.length → (svcE c i).2.2 = 0 := by
    intro i
    induction i using Nat.strongRecOn with
    | _ i ih =>
      intro hi
      apply Classical.byContradiction
      intro hne
      rw [check_svc h0 hi (fun j hj => ih j hj (by omega)) hne] at h
      exact hne h
  refine ⟨by omega, by omega, ?_, hall⟩
  rw [check_none h0 hall] at h
  cases cyc
  · rfl
  · simp at h
end Go.Lg.Tryz

set_option linter.unusedVariables false
set_option linter.unusedSimpArgs false
namespace Go.Lg.Tryz
open Go Go.Proofs Go.RowKit Go.Lib Go.Lg.Sem
end Go.Lg.Tryz

set_option linter.unusedVariables false
set_option linter.unusedSimpArgs false
namespace Go.Lg.Tryz
open Go Go.Proofs Go.RowKit Go.Lib Go.Lg.Sem
theorem levels_of {c : Ctl} {cyc : Bool} (h : (checkV c cyc).2.2 = 0) : ∀ s, s ∈ c → s.rels.length ≤ 12 ∧ ∀ r, r ∈ s.rels → 0 ≤ r.level ∧ r.level ≤ 1000 := by
  obtain ⟨_, _, _, hall⟩ := right_of h
  intro s hs
  obtain ⟨i, hi⟩ := List.mem_iff_getElem?.1 hs
  have hil : i < c.length := by
    rcases Nat.lt_or_ge i c.length with h | h
    · exact h
    · rw [List.getElem?_eq_none h] at hi; cases hi
  have hE := hall i hil
  have hv : svcV c i = 0 := by
    apply Classical.byContradiction
    intro hv
    rw [svcE_svc hv] at hE
    exact hv hE
  have hrl : relsLen c i = s.rels.length := by unfold relsLen; rw [hi]
  have hr0 : ∀ k, k < s.rels.length → relV c i k = 0 := by
    intro k
    induction k using Nat.strongRecOn with
    | _ k ih =>
      intro hk
      apply Classical.byContradiction
      intro hne
      rw [svcE_rel hv (by rw [hrl]; exact hk) (fun j hj => ih j hj (by omega)) hne] at hE
      exact hne hE
  refine ⟨?_, fun r hr => ?_⟩
  · unfold svcV at hv
    rw [hi] at hv
    simp only at hv
    split at hv
    · omega
    · split at hv
      · omega
      · split at hv
        · omega
        · omega
  · obtain ⟨k, hk⟩ := List.mem_iff_getElem?.1 hr
    have hkl : k < s.rels.length := by
      rcases Nat.lt_or_ge k s.rels.length with h | h
      · exact h
      · rw [List.getElem?_eq_none h] at hk; cases hk
    have h0 := hr0 k hkl
    unfold relV at h0
    rw [hi] at h0
    simp only [hk] at h0
    split at h0
    · omega
    · split at h0
      · omega
      · split at h0
        · omega
        · rename_i h3
          omega
end Go.Lg.Tryz

set_option linter.unusedVariables false
set_option linter.unusedSimpArgs false
namespace Go.Lg
open Go Go.RowKit
section
variable {P : Program} {G : Env} {n : Nat} {tab : Tab} {m : Store}
theorem flat_at {es : Nat} (hpos : 0 < es) : ∀ {xs : List T}, (∀ x, x ∈ xs → x.cells.length = es) → (xs.flatMap T.cells).length = xs.length * es ∧ ∀ k, (xs.flatMap T.cells)[k]? = (xs[k / es]?).bind fun x => x.cells[k % es]?
  | [], _ => ⟨by simp, fun k => by simp⟩
  | x :: xs, h => by
    obtain ⟨h1, h2⟩ := flat_at hpos (xs := xs) (fun y hy => h y (List.mem_cons_of_mem _ hy))
    have hx := h x (List.mem_cons_self ..)
    refine ⟨by rw [List.flatMap_cons, List.length_append, h1, hx, List.length_cons, Nat.succ_mul]; omega, fun k => ?_⟩
    rw [List.flatMap_cons]
    rcases Nat.lt_or_ge k es with hk | hk
    · rw [List.getElem?_append_left (by omega), Nat.div_eq_of_lt hk, Nat.mod_eq_of_lt hk]; rfl
    · rw [List.getElem?_append_right (by omega), h2, hx]
      have e1 : k / es = (k - es) / es + 1 := by
        rw [show k = (k - es) + es by omega, Nat.add_div_right _ hpos]; simp
      have e2 : k % es = (k - es) % es := by
        rw [show k = (k - es) + es by omega, Nat.add_mod_right]; simp
      rw [e1, e2, List.getElem?_cons_succ]
theorem RawRel.blk {w : World} {M : Nat → Nat → Prop} {e : TypeId} {xs : List T} {v : Value} {o : Option Nat} (h : RawRel P w M e true xs v o) (hne : xs ≠ []) {ie : TypeInfo} (hie : P.info? e = some ie) (hpos : 0 < ie.size) :
    ∃ b cap cs, o = some b ∧ v = .slice (some ⟨b, 0, none⟩) xs.length cap ∧ xs.length ≤ cap ∧ w.heap[b]? = some (.cells cs e (0, 0)) ∧ cs.size = ((xs.flatMap T.cells).map AV.tr ++ List.replicate ((cap - xs.length) * ie.size) AV.unk).length ∧ (∀ k, ¬ M b k) ∧
      (∀ (k : Nat) (u : Value), cs[k]? = some u → u.oneCell' = true) ∧ ∀ (Ow : Loc → Nat → Option Nat) (k : Nat) (y : AV) (u : Value) (q : Option Nat), ((xs.flatMap T.cells).map AV.tr ++ List.replicate ((cap - xs.length) * ie.size) AV.unk)[k]? = some y → cs[k]? = some u → SRel P w M Ow y u q := by
  obtain ⟨i, hi, hx, h⟩ := h
  obtain rfl : i = ie := by rw [hie] at hi; exact (Option.some.inj hi).symm
  rcases h with ⟨rfl, _⟩ | ⟨b, off, cap, cs, rfl, rfl, hz, hh, hs, hzs, hc, hn, h1, hr⟩
  · exact absurd rfl hne
  · obtain rfl := hz rfl
    have hzs := hzs rfl
    obtain ⟨f1, f2⟩ := flat_at hpos hx
    refine ⟨b, cap, cs, rfl, rfl, hc, hh, ?_, hn, h1, ?_⟩
    · rw [List.length_append, List.length_map, List.length_replicate, f1, ← Nat.add_mul, hzs]; congr 1; omega
    · intro Ow k y u q hy hu
      rcases Nat.lt_or_ge k ((xs.flatMap T.cells).map AV.tr).length with hk | hk
      · rw [List.getElem?_append_left hk, List.getElem?_map] at hy
        obtain ⟨t, ht, rfl⟩ := Option.map_eq_some_iff.1 hy
        rw [f2] at ht
        obtain ⟨x, hx1, hx2⟩ := Option.bind_eq_some_iff.1 ht
        obtain ⟨u', hu', hru⟩ := hr _ _ _ _ hx1 hx2
        have e : 0 + k / i.size * i.size + k % i.size = k := by rw [Nat.zero_add, Nat.mul_comm]; exact Nat.div_add_mod k i.size
        rw [e, hu] at hu'
        obtain rfl := Option.some.inj hu'
        exact VRel.tr _ _ hru
      · rw [List.getElem?_append_right hk] at hy
        have := List.eq_of_mem_replicate (List.mem_of_getElem? hy)
        subst this; exact VRel.unk _
theorem Rel.addblk' {Γ : Ctx} {M : Nat → Nat → Prop} {Ow : Loc → Nat → Option Nat} {a : Act} {w : World} (h : Rel P Γ M Ow n m a w) {κ : Loc} (hk : κ.isBlk = true) (hpn : Γ.pin κ = none) (hr : refsM κ m = false) {b : Nat} {cs : Array Value} {ty : TypeId} {cells : List AV}
    (hb : w.heap[b]? = some (.cells cs ty (0, 0))) (hu : ∀ l i, Ow l i ≠ some b) (hbl : b < w.heap.size) (h0 : Γ.own0 b ∨ Γ.w0.heap.size ≤ b) (hm : ∀ o, ¬ M b o) (hs : cs.size = cells.length)
    (h1 : ∀ (i : Nat) (v : Value), cs[i]? = some v → v.oneCell' = true) (hc : ∀ (i : Nat) (y : AV) (v : Value), cells[i]? = some y → cs[i]? = some v → SRel P w M Ow y v none)
    (hrc : refsL κ cells = false) :
    Rel P Γ M (fun l i => if l = κ then (if i = 0 then some b else none) else Ow l i) n ((κ, .blk ty cells) :: m) a w := by
  have key : ∀ {x : AV} {v : Value} {o : Option Nat}, ¬ Refs κ x → SRel P w M Ow x v o → SRel P w M (fun l i => if l = κ then (if i = 0 then some b else none) else Ow l i) x v o := by
    intro x v o hx hv
    refine hv.mono (fun b o h => ⟨h, rfl⟩) ?_ (fun b hb => ⟨hb, fun cs ty h => h, fun k h => h⟩)
    intro κ' b' _ hr' e
    have : κ' ≠ κ := fun e' => hx (e' ▸ hr')
    simp only [if_neg this]; exact e
  exact {
    size := h.size
    defers := h.defers
    slot := by
      intro t v hv
      have hne : (Loc.s t) ≠ κ := fun e => by rw [← e] at hk; cases hk
      rw [lk_ne _ _ (fun e => hne e.symm)] at hv
      have := key (refsM_lk hr hv) (h.slot t v hv)
      simpa only [if_neg hne] using this
    blk := by
      intro κ' v hk' hv
      rw [lk_cons] at hv
      split at hv
      · rename_i e; subst e
        obtain rfl := Option.some.inj hv
        refine ⟨ty, cells, b, cs, rfl, by simp, hb, hs, hm, h1, ?_⟩
        intro i y v hy hv'
        simp only [if_true, if_neg (Nat.succ_ne_zero i)]
        refine key ?_ (hc i y v hy hv')
        intro hr'
        have := refsL_mem (List.mem_of_getElem? hy) (refs_of hr')
        rw [hrc] at this; cases this
      · rename_i e
        obtain ⟨ty', cells', b', cs', rfl, ho', hh', hs', hn', h1', hc'⟩ := h.blk κ' v hk' hv
        have e' : κ' ≠ κ := fun x => e x.symm
        refine ⟨ty', cells', b', cs', rfl, by simp only [if_neg e']; exact ho', hh', hs', hn', h1', ?_⟩
        intro i y v hy hv'
        have hx : ¬ Refs κ y := fun hr' => refsM_lk hr hv (.blk ty' cells' y (List.mem_of_getElem? hy) hr')
        have := key hx (hc' i y v hy hv')
        simpa only [if_neg e'] using this
    inj := by
      intro l i l' i' c hl hl'
      by_cases e : l = κ <;> by_cases e' : l' = κ
      · subst e; subst e'
        simp only [if_true] at hl hl'
        split at hl <;> split at hl' <;> simp_all
      · subst e
        simp only [if_true, if_neg e'] at hl hl'
        split at hl
        · obtain rfl := Option.some.inj hl; exact absurd hl' (hu _ _)
        · cases hl
      · subst e'
        simp only [if_true, if_neg e] at hl hl'
        split at hl'
        · obtain rfl := Option.some.inj hl'; exact absurd hl (hu _ _)
        · cases hl'
      · simp only [if_neg e, if_neg e'] at hl hl'
        exact h.inj _ _ _ _ _ hl hl'
    lt := by
      intro l i c hc'
      by_cases e : l = κ
      · simp only [if_pos e] at hc'
        split at hc'
        · obtain rfl := Option.some.inj hc'; exact (Array.getElem?_eq_some_iff.1 hb).1
        · cases hc'
      · simp only [if_neg e] at hc'; exact h.lt _ _ _ hc'
    mine := by
      intro l i c hc'
      by_cases e : l = κ
      · simp only [if_pos e] at hc'
        split at hc'
        · obtain rfl := Option.some.inj hc'; exact h0.elim .inl (fun h => .inr (.inl h))
        · cases hc'
      · simp only [if_neg e] at hc'; exact h.mine _ _ _ hc'
    mlt := h.mlt
    mold := h.mold
    mnew := h.mnew
    fr := h.fr
    pin := fun κ' b' hk' hp => by
      have e : κ' ≠ κ := fun e => by rw [e, hpn] at hp; cases hp
      simp only [if_neg e]; exact h.pin κ' b' hk' hp }
theorem RelX.thaw (hT : TabOk P tab) {Γ : Ctx} {a : Act} {w : World} (h : RelX P Γ n m a w) {s : Nat} {κ : Loc} {e es by' : Nat} {kd : TK} {zs : List AV} {xs : List T} (hs : lk m (.s s) = some (.raw e true xs)) (hne : xs ≠ []) (he : tlk tab e = some ⟨es, by', kd, zs⟩) (hpos : 0 < es)
    (hL : κ.isL = true) (hpn : Γ.pin κ = none) (hf : refsM κ m = false) :
    ∃ cap, xs.length ≤ cap ∧ RelX P Γ n ((.s s, .sl κ xs.length cap) :: (κ, .blk e ((xs.flatMap T.cells).map .tr ++ List.replicate ((cap - xs.length) * es) .unk)) :: m) a w := by
  obtain ⟨M, Ow, hr⟩ := h
  obtain ⟨ie, hie, hsz, _⟩ := hT.info he
  have hsz : ie.size = es := hsz
  subst hsz
  have hv : RawRel P w M e true xs (a.tmps.getD s undef) (Ow (.s s) 0) := hr.slot s _ hs
  obtain ⟨b, cap, cs, ho, ev, hc, hh, hsz, hn, h1, hcs⟩ := hv.blk hne hie hpos
  have hr2 := hr.forget s
  obtain ⟨f1, f2, f3⟩ := hr.forget_free ho
  have h0 : Γ.w0.heap.size ≤ b ∨ Γ.own0 b := f3.symm
  have hf2 : refsM κ ((Loc.s s, AV.unk) :: m) = false := by simp only [refsM, AV.refs, Bool.false_or]; exact hf
  have hrefs : refsL κ ((xs.flatMap T.cells).map AV.tr ++ List.replicate ((cap - xs.length) * ie.size) AV.unk) = false := by
    have : ∀ l : List AV, (∀ y, y ∈ l → y.refs κ = false) → refsL κ l = false := by
      intro l
      induction l with
      | nil => intro _; rfl
      | cons y l ih => intro hl; simp only [refsL, Bool.or_eq_false_iff]; exact ⟨hl y (List.mem_cons_self ..), ih (fun z hz => hl z (List.mem_cons_of_mem _ hz))⟩
    refine this _ fun y hy => ?_
    rcases List.mem_append.1 hy with hy | hy
    · obtain ⟨t, _, rfl⟩ := List.mem_map.1 hy; rfl
    · rw [List.eq_of_mem_replicate hy]; rfl
  have h3 := hr2.addblk' (κ := κ) (Loc.isL_blk hL) hpn hf2 (b := b) hh f1 f2 f3 hn hsz h1 (fun i y v hy hv => hcs _ i y v none hy hv) hrefs
  refine ⟨cap, hc, M, _, (h3.label (t := s) (v' := .sl κ xs.length cap) ?_).sub ?_⟩
  · rw [ev]
    exact .sl κ _ _ b (Loc.isL_blk hL) (by simp) hc
  · intro l v hl
    rw [lk_cons] at hl ⊢
    split
    · rename_i e; rw [if_pos e] at hl; exact hl
    · rename_i e
      rw [if_neg e] at hl
      rw [lk_cons] at hl ⊢
      split
      · rename_i e2; rw [if_pos e2] at hl; exact hl
      · rename_i e2; rw [if_neg e2] at hl; rw [lk_ne _ _ e]; exact hl
theorem Tr.thaw (hT : TabOk P tab) {c : Code} {Q : Exit → Store → Prop} (s : Nat) (κ : Loc) {e es by' : Nat} {kd : TK} {zs : List AV} {xs : List T} (hs : lk m (.s s) = some (.raw e true xs)) (hne : xs ≠ []) (he : tlk tab e = some ⟨es, by', kd, zs⟩) (hpos : 0 < es)
    (hL : κ.isL = true) (hf : (freshB [κ] m && pinB [κ] G.pins) = true) (k : ∀ cap, xs.length ≤ cap → Tr P G n c ((.s s, .sl κ xs.length cap) :: (κ, .blk e ((xs.flatMap T.cells).map .tr ++ List.replicate ((cap - xs.length) * es) .unk)) :: m) Q) : Tr P G n c m Q := fun Γ hΓ a w hr => by
  rw [Bool.and_eq_true] at hf
  have hpn : Γ.pin κ = none := by
    cases hx : Γ.pin κ with
    | none => rfl
    | some b => exact absurd (hΓ.2 κ (by rw [hx]; simp)) (pinB_eq hf.2 κ (by simp))
  obtain ⟨cap, hc, hr'⟩ := hr.thaw hT hs hne he hpos hL hpn (freshB_eq hf.1 κ (by simp))
  exact k cap hc Γ hΓ a w hr'
end
end Go.Lg

set_option linter.unusedVariables false
set_option linter.unusedSimpArgs false
namespace Go.Lg.Tryz
open Go Go.Proofs Go.RowKit Go.Lib Go.Lg.Sem
def plAt (c : Ctl) (vs : List Int) (i : Nat) : Pl := match vs[i]? with
  | some v => match relAt c i v with
    | some r => ⟨floatOfInt .f64 v, floatOfInt .f64 (2 * r.level), v, 2 * r.level⟩
    | none => ⟨floatOfInt .f64 0, floatOfInt .f64 0, 0, 0⟩
  | none => ⟨floatOfInt .f64 0, floatOfInt .f64 0, 0, 0⟩
def pls (c : Ctl) (vs : List Int) : List Pl := (List.range vs.length).map (plAt c vs)
theorem pls_t (c : Ctl) (vs : List Int) : (pls c vs).map plT = (List.range vs.length).map (placeAt c vs) := by
  unfold pls
  rw [List.map_map]
  apply List.map_congr_left
  intro i _
  show plT (plAt c vs i) = placeAt c vs i
  unfold plAt placeAt
  cases vs[i]? with
  | none => rfl
  | some v =>
    simp only
    cases relAt c i v <;> rfl
theorem rightV_at {q : Ctl} {vs : List Int} (hr : rightV q vs = true) : vs.length = q.length ∧ ∀ k, k < vs.length → ∃ v s r, vs[k]? = some v ∧ q[k]? = some s ∧ 0 ≤ v ∧ s.rels[v.toNat]? = some r ∧ relAt q k v = some r := by
  unfold rightV at hr
  rw [Bool.and_eq_true, decide_eq_true_eq, List.all_eq_true] at hr
  obtain ⟨hlen, hall⟩ := hr
  refine ⟨hlen, ?_⟩
  intro k hk
  obtain ⟨v, hv⟩ : ∃ v, vs[k]? = some v := ⟨_, List.getElem?_eq_getElem hk⟩
  obtain ⟨s, hs⟩ : ∃ s, q[k]? = some s := ⟨_, List.getElem?_eq_getElem (by omega)⟩
  have hok := hall k (List.mem_range.2 hk)
  unfold okAt at hok
  rw [hv] at hok
  simp only at hok
  obtain ⟨r, hrel⟩ := Option.isSome_iff_exists.1 hok
  have hv0 : 0 ≤ v := by
    rcases Int.lt_or_le v 0 with h | h
    · rw [relAt_neg h] at hrel; cases hrel
    · exact h
  exact ⟨v, s, r, hv, hs, hv0, by rw [relAt_pos (s := s) (by simpa using hs) hv0] at hrel; exact hrel, hrel⟩
theorem pls_ok {q : Ctl} {vs : List Int} (hr : rightV q vs = true) (hlv : ∀ s, s ∈ q → s.rels.length ≤ 12 ∧ ∀ r, r ∈ s.rels → 0 ≤ r.level ∧ r.level ≤ 1000) : ∀ p, p ∈ pls q vs → p.ok := by
  intro p hp
  unfold pls at hp
  obtain ⟨i, hi, rfl⟩ := List.mem_map.1 hp
  obtain ⟨v, s, r, hv, hs, hv0, hrv, hrel⟩ := (rightV_at hr).2 i (List.mem_range.1 hi)
  obtain ⟨h12, hl⟩ := hlv s (List.mem_of_getElem? hs)
  obtain ⟨l0, l1⟩ := hl r (List.mem_of_getElem? hrv)
  have hvl := (List.getElem?_eq_some_iff.1 hrv).1
  have e : plAt q vs i = ⟨floatOfInt .f64 v, floatOfInt .f64 (2 * r.level), v, 2 * r.level⟩ := by
    unfold plAt; rw [hv]; simp only; rw [hrel]
  rw [e]
  exact ⟨OkX.of (by omega) (by omega), OkX.of (by omega) (by omega), by show 2 * r.level ≤ 100000; omega⟩
def vAt (vs : List Int) (k : Nat) : Int := vs.getD k 0
theorem good_iff {q : Ctl} (hlv : ∀ s, s ∈ q → s.rels.length ≤ 12 ∧ ∀ r, r ∈ s.rels → 0 ≤ r.level ∧ r.level ≤ 1000) {vs : List Int} (hr : rightV q vs = true) : goodB q (pls q vs) = true ↔ ∀ i j, j < i → i < vs.length → fitsB q i (vAt vs i) j (vAt vs j) = true := by
  obtain ⟨hlen, hat⟩ := rightV_at hr
  have hl : (pls q vs).length = vs.length := by unfold pls; simp
  have hpl : ∀ k, k < vs.length → (pls q vs)[k]? = some (plAt q vs k) := fun k hk => by unfold pls; rw [List.getElem?_map, List.getElem?_range hk]; rfl
  have hv : ∀ k, k < vs.length → (plAt q vs k).v = vAt vs k := fun k hk => by
    obtain ⟨v, s, r, hv, hs, hv0, hrv, hrel⟩ := hat k hk
    unfold plAt vAt; rw [List.getD_eq_getElem?_getD, hv]; simp only; rw [hrel]; rfl
  have hst : ∀ k, k < vs.length → standsB q k (plAt q vs k).v (plAt q vs k).f = true := fun k hk => by
    obtain ⟨v, s, r, hv, hs, hv0, hrv, hrel⟩ := hat k hk
    have e : plAt q vs k = ⟨floatOfInt .f64 v, floatOfInt .f64 (2 * r.level), v, 2 * r.level⟩ := by
      unfold plAt; rw [hv]; simp only; rw [hrel]
    rw [e]
    show standsB q k v (2 * r.level) = true
    have l0 := ((hlv s (List.mem_of_getElem? hs)).2 r (List.mem_of_getElem? hrv)).1
    unfold standsB
    rw [hrel]
    simp only [Bool.and_eq_true, decide_eq_true_eq]
    omega
  unfold goodB
  rw [Bool.and_eq_true, decide_eq_true_eq, List.all_eq_true, hl]
  constructor
  · rintro ⟨_, h⟩ i j hj hi
    have := h i (List.mem_range.2 hi)
    unfold goodAt at this
    rw [hpl i hi] at this
    simp only at this
    rw [Bool.and_eq_true, List.all_eq_true] at this
    have := this.2 j (List.mem_range.2 hj)
    rw [hpl j (by omega)] at this
    simp only at this
    rw [hv i hi, hv j (by omega)] at this
    exact this
  · intro h
    refine ⟨hlen, fun i hi => ?_⟩
    have hi := List.mem_range.1 hi
    unfold goodAt
    rw [hpl i hi]
    simp only
    rw [Bool.and_eq_true, List.all_eq_true]
    refine ⟨hst i hi, fun j hj => ?_⟩
    have hj := List.mem_range.1 hj
    rw [hpl j (by omega)]
    simp only
    rw [hv i hi, hv j (by omega)]
    exact h i j hj hi
end Go.Lg.Tryz

set_option linter.unusedVariables false
set_option linter.unusedSimpArgs false
namespace Go.Lg.Tryz
open Go Go.Proofs Go.RowKit Go.Lib Go.Lg.Sem
structure Stp where
  s : Nat
  k : Nat
  deriving DecidableEq
def lvl (c : Ctl) (i v : Int) : Int := match relAt c i v with
  | some r => r.level
  | none => 0
def riseV (c : Ctl) (f t : List Int) (i : Nat) : Int := lvl c i (vAt t i) - lvl c i (vAt f i)
def stepsAt (c : Ctl) (f t : List Int) (i : Nat) : List Stp := if vAt f i = vAt t i then [] else if riseV c f t i = 0 then [⟨i, 2⟩] else [⟨i, 1⟩, ⟨i, 2⟩, ⟨i, 3⟩]
def stepsUp (c : Ctl) (f t : List Int) (n : Nat) : List Stp := (List.range n).flatMap (stepsAt c f t)
def stepsV (c : Ctl) (f t : List Int) : List Stp := stepsUp c f t f.length
def aheadS (c : Ctl) (f t : List Int) (a b : Stp) : Bool := if a.s = b.s then b.k == a.k + 1 else a.k == 2 && b.k == 2 && !fitsB c a.s (vAt f a.s) b.s (vAt t b.s)
def befRow (c : Ctl) (f t : List Int) (l : List Stp) (i k : Nat) : List (Nat × Nat) := ((List.range k).filter fun k => match l[i]?, l[k]? with
  | some a, some b => aheadS c f t a b
  | _, _ => false).map fun k => (i, k)
def befUp (c : Ctl) (f t : List Int) (l : List Stp) (i : Nat) : List (Nat × Nat) := (List.range i).flatMap fun i => befRow c f t l i l.length
def befV (c : Ctl) (f t : List Int) : List (Nat × Nat) := befUp c f t (stepsV c f t) (stepsV c f t).length
def endsV (c : Ctl) (f t : List Int) : Int := if rightV c f = false ∨ rightV c t = false then 42 else if goodB c (pls c f) = false ∨ goodB c (pls c t) = false then 70
  else if (List.range f.length).any (fun i => decide (riseV c f t i < 0) || decide (riseV c f t i > 1)) then 43 else 0
abbrev stpT (s : Stp) : T := .ag [.sc (.int .i64 (s.s : Int)), .sc (.int .i64 (s.k : Int))]
structure Pln where
  f : List Int
  t : List Int
  l : List Stp
  b : List (Nat × Nat)
abbrev plnT (p : Pln) : T := .ag [.ls (p.f.map intT), .ls (p.t.map intT), .ls (p.l.map stpT), .ls (p.b.map edT)]
def planV (c : Ctl) (f t : List Int) : Pln := ⟨f, t, stepsV c f t, befV c f t⟩
theorem stepsUp_succ (c : Ctl) (f t : List Int) (n : Nat) : stepsUp c f t (n + 1) = stepsUp c f t n ++ stepsAt c f t n := by
  unfold stepsUp; rw [List.range_succ, List.flatMap_append]; simp
theorem stepsUp_len (c : Ctl) (f t : List Int) (n : Nat) : (stepsUp c f t n).length ≤ 3 * n := by
  induction n with
  | zero => simp [stepsUp]
  | succ n ih =>
    rw [stepsUp_succ, List.length_append]
    have : (stepsAt c f t n).length ≤ 3 := by
      unfold stepsAt
      split
      · simp
      · split <;> simp
    omega
theorem befRow_succ {c : Ctl} {f t : List Int} {l : List Stp} {i k : Nat} {a b : Stp} (ha : l[i]? = some a) (hb : l[k]? = some b) : befRow c f t l i (k + 1) = befRow c f t l i k ++ (if aheadS c f t a b then [(i, k)] else []) := by
  unfold befRow
  rw [List.range_succ, List.filter_append, List.map_append]
  congr 1
  simp only [List.filter_cons, List.filter_nil, ha, hb]
  split <;> simp
theorem befRow_len (c : Ctl) (f t : List Int) (l : List Stp) (i k : Nat) : (befRow c f t l i k).length ≤ k := by
  unfold befRow
  rw [List.length_map]
  exact Nat.le_trans (List.length_filter_le _ _) (by simp)
theorem befUp_succ (c : Ctl) (f t : List Int) (l : List Stp) (i : Nat) : befUp c f t l (i + 1) = befUp c f t l i ++ befRow c f t l i l.length := by
  unfold befUp; rw [List.range_succ, List.flatMap_append]; simp
theorem befUp_len (c : Ctl) (f t : List Int) (l : List Stp) (i : Nat) : (befUp c f t l i).length ≤ i * l.length := by
  induction i with
  | zero => simp [befUp]
  | succ i ih => rw [befUp_succ, List.length_append, Nat.succ_mul]; have := befRow_len c f t l i l.length; omega
theorem bef_mem {c : Ctl} {f t : List Int} {p : Nat × Nat} : p ∈ befV c f t ↔ ∃ a b, (stepsV c f t)[p.1]? = some a ∧ (stepsV c f t)[p.2]? = some b ∧ aheadS c f t a b = true := by
  unfold befV befUp befRow
  rw [List.mem_flatMap]
  constructor
  · rintro ⟨i, hi, hp⟩
    obtain ⟨k, hk, rfl⟩ := List.mem_map.1 hp
    rw [List.mem_filter] at hk
    obtain ⟨hk1, hk2⟩ := hk
    split at hk2
    · rename_i a b ha hb; exact ⟨a, b, ha, hb, hk2⟩
    · cases hk2
  · rintro ⟨a, b, ha, hb, h⟩
    have hi := (List.getElem?_eq_some_iff.1 ha).1
    have hk := (List.getElem?_eq_some_iff.1 hb).1
    refine ⟨p.1, List.mem_range.2 hi, List.mem_map.2 ⟨p.2, List.mem_filter.2 ⟨List.mem_range.2 hk, ?_⟩, rfl⟩⟩
    simp only [ha, hb]; exact h
theorem bef_p (c : Ctl) (f t : List Int) : ∀ p, p ∈ befV c f t → p.1 < (stepsV c f t).length ∧ p.2 < (stepsV c f t).length := fun p hp => by
  obtain ⟨a, b, ha, hb, _⟩ := bef_mem.1 hp
  exact ⟨(List.getElem?_eq_some_iff.1 ha).1, (List.getElem?_eq_some_iff.1 hb).1⟩
end Go.Lg.Tryz

set_option linter.unusedVariables false
set_option linter.unusedSimpArgs false
namespace Go.Lg.Tryz
open Go Go.Proofs Go.RowKit Go.Lib Go.Lg.Sem
theorem filt_range {α : Type} (p : α → Bool) : ∀ (L : List α), ((List.range L.length).filter fun k => match L[k]? with | some b => p b | none => false).length = (L.filter p).length := by
  refine snoc_ind (P := fun L => ((List.range L.length).filter fun k => match L[k]? with | some b => p b | none => false).length = (L.filter p).length) rfl ?_
  intro L x ih
  rw [List.length_append, List.length_singleton, List.range_succ, List.filter_append, List.length_append, List.filter_append, List.length_append, ← ih]
  congr 1
  · congr 1
    apply List.filter_congr
    intro k hk
    have := List.mem_range.1 hk
    rw [List.getElem?_append_left this]
  · simp only [List.filter_cons, List.filter_nil, List.getElem?_append_right (Nat.le_refl L.length), Nat.sub_self, List.getElem?_cons_zero]
    split <;> simp
theorem befRow_eq {c : Ctl} {f t : List Int} {l : List Stp} {i : Nat} {a : Stp} (ha : l[i]? = some a) : (befRow c f t l i l.length).length = (l.filter (aheadS c f t a)).length := by
  unfold befRow
  rw [List.length_map, ← filt_range (aheadS c f t a) l]
  refine congrArg List.length (List.filter_congr fun k _ => ?_)
  rw [ha]
  cases l[k]? <;> rfl
theorem stepsAt_mem {c : Ctl} {f t : List Int} {i : Nat} {a : Stp} (h : a ∈ stepsAt c f t i) : a.s = i ∧ (a.k = 1 ∨ a.k = 2 ∨ a.k = 3) := by
  unfold stepsAt at h
  split at h
  · cases h
  · split at h
    · simp at h; subst h; simp
    · simp only [List.mem_cons, List.not_mem_nil, or_false] at h
      rcases h with rfl | rfl | rfl <;> simp
theorem stepsUp_mem {c : Ctl} {f t : List Int} {n : Nat} {a : Stp} : a ∈ stepsUp c f t n ↔ a.s < n ∧ a ∈ stepsAt c f t a.s := by
  unfold stepsUp
  rw [List.mem_flatMap]
  constructor
  · rintro ⟨i, hi, h⟩
    have e := (stepsAt_mem h).1
    exact ⟨by rw [e]; exact List.mem_range.1 hi, by rw [e]; exact h⟩
  · rintro ⟨h1, h2⟩
    exact ⟨a.s, List.mem_range.2 h1, h2⟩
theorem stepsAt_nodup (c : Ctl) (f t : List Int) (i : Nat) : (stepsAt c f t i).Nodup := by
  unfold stepsAt
  split
  · exact List.nodup_nil
  · split
    · simp
    · simp
theorem stepsUp_nodup (c : Ctl) (f t : List Int) (n : Nat) : (stepsUp c f t n).Nodup := by
  induction n with
  | zero => exact List.nodup_nil
  | succ n ih =>
    rw [stepsUp_succ, List.nodup_append]
    refine ⟨ih, stepsAt_nodup c f t n, ?_⟩
    intro a ha b hb e
    subst e
    have h1 := (stepsUp_mem.1 ha).1
    have h2 := (stepsAt_mem hb).1
    omega
theorem two_len (c : Ctl) (f t : List Int) (n : Nat) : ((stepsUp c f t n).filter fun a => a.k == 2).length ≤ n := by
  induction n with
  | zero => simp [stepsUp]
  | succ n ih =>
    rw [stepsUp_succ, List.filter_append, List.length_append]
    have : ((stepsAt c f t n).filter fun a => a.k == 2).length ≤ 1 := by
      unfold stepsAt
      split
      · simp
      · split <;> simp [List.filter_cons]
    omega
theorem nodup_eq_len {α : Type} [DecidableEq α] (x : α) : ∀ (l : List α), l.Nodup → (l.filter fun b => b == x).length ≤ 1
  | [], _ => by simp
  | y :: l, h => by
    rw [List.nodup_cons] at h
    have ih := nodup_eq_len x l h.2
    rw [List.filter_cons]
    split
    · rename_i e
      have e : y = x := by simpa using e
      subst e
      have : l.filter (fun b => b == y) = [] := by
        rw [List.filter_eq_nil_iff]
        intro b hb hbe
        have : b = y := by simpa using hbe
        exact h.1 (this ▸ hb)
      rw [this]; simp
    · exact ih
theorem ahead_row (c : Ctl) (f t : List Int) (l : List Stp) (hl : l.Nodup) (a : Stp) : (l.filter (aheadS c f t a)).length ≤ (if a.k = 2 then (l.filter fun b => b.k == 2).length else 0) + 1 := by
  have h1 := nodup_eq_len (⟨a.s, a.k + 1⟩ : Stp) l hl
  have key : ∀ l : List Stp, (l.filter (aheadS c f t a)).length ≤ (if a.k = 2 then (l.filter fun b => b.k == 2).length else 0) + (l.filter fun b => b == (⟨a.s, a.k + 1⟩ : Stp)).length := by
    intro l
    induction l with
    | nil => simp
    | cons b l ih =>
      by_cases hb : aheadS c f t a b = true
      · unfold aheadS at hb
        rw [List.filter_cons_of_pos (by unfold aheadS; exact hb)]
        by_cases hs : a.s = b.s
        · rw [if_pos hs] at hb
          have hk : b.k = a.k + 1 := by simpa using hb
          have e : b = ⟨a.s, a.k + 1⟩ := by cases b; simp at hs hk; rw [hs, hk]
          have h2 : ((b :: l).filter fun b => b == (⟨a.s, a.k + 1⟩ : Stp)).length = (l.filter fun b => b == (⟨a.s, a.k + 1⟩ : Stp)).length + 1 := by rw [List.filter_cons_of_pos (by simp [e])]; rfl
          rw [h2, List.length_cons]
          split
          · rename_i h3
            rw [if_pos h3] at ih
            have : (l.filter fun b => b.k == 2).length ≤ ((b :: l).filter fun b => b.k == 2).length := by
              rw [List.filter_cons]; split <;> simp
            omega
          · rename_i h3
            rw [if_neg h3] at ih
            omega
        · rw [if_neg hs] at hb
          simp only [Bool.and_eq_true, beq_iff_eq] at hb
          obtain ⟨⟨h3, h4⟩, _⟩ := hb
          rw [if_pos h3] at ih ⊢
          rw [List.filter_cons_of_pos (p := fun b : Stp => b.k == 2) (by simpa using h4), List.length_cons, List.length_cons]
          have : (l.filter fun b => b == (⟨a.s, a.k + 1⟩ : Stp)).length ≤ ((b :: l).filter fun b => b == (⟨a.s, a.k + 1⟩ : Stp)).length := by
            rw [List.filter_cons]; split <;> simp
          omega
      · rw [List.filter_cons_of_neg hb]
        have h3 : (l.filter fun b => b.k == 2).length ≤ ((b :: l).filter fun b => b.k == 2).length := by
          rw [List.filter_cons]; split <;> simp
        have h4 : (l.filter fun b => b == (⟨a.s, a.k + 1⟩ : Stp)).length ≤ ((b :: l).filter fun b => b == (⟨a.s, a.k + 1⟩ : Stp)).length := by
          rw [List.filter_cons]; split <;> simp
        split
        · rename_i h5
          rw [if_pos h5] at ih
          omega
        · rename_i h5
          rw [if_neg h5] at ih
          omega
  have := key l
  omega
theorem befUp_bound (c : Ctl) (f t : List Int) (l : List Stp) (hl : l.Nodup) (m : Nat) (hm : (l.filter fun b => b.k == 2).length ≤ m) : ∀ i, i ≤ l.length → (befUp c f t l i).length ≤ ((l.take i).filter fun b => b.k == 2).length * m + i := by
  intro i
  induction i with
  | zero => intro _; simp [befUp]
  | succ i ih =>
    intro hi
    have ih := ih (by omega)
    obtain ⟨a, ha⟩ : ∃ a, l[i]? = some a := ⟨_, List.getElem?_eq_getElem (by omega)⟩
    have hrow := ahead_row c f t l hl a
    rw [befUp_succ, List.length_append, befRow_eq ha]
    have e : l.take (i + 1) = l.take i ++ [a] := by
      rw [List.take_succ_eq_append_getElem (by omega)]
      congr 2
      rw [List.getElem?_eq_getElem (by omega)] at ha
      exact Option.some.inj ha
    rw [e, List.filter_append, List.length_append, Nat.add_mul]
    by_cases hk : a.k = 2
    · rw [if_pos hk] at hrow
      rw [List.filter_cons_of_pos (by simpa using hk)]
      simp
      omega
    · rw [if_neg hk] at hrow
      omega
theorem bef_bound {c : Ctl} {f t : List Int} (hf : f.length ≤ 12) : (befV c f t).length ≤ 200 ∧ (stepsV c f t).length ≤ 36 := by
  have h1 := stepsUp_len c f t f.length
  have h2 := two_len c f t f.length
  have h3 := befUp_bound c f t (stepsV c f t) (stepsUp_nodup c f t f.length) 12 (by unfold stepsV; omega) (stepsV c f t).length (Nat.le_refl _)
  rw [List.take_length] at h3
  have h4 : ((stepsV c f t).filter fun b => b.k == 2).length * 12 ≤ 12 * 12 := Nat.mul_le_mul_right _ (by unfold stepsV; omega)
  unfold befV
  unfold stepsV at *
  omega
end Go.Lg.Tryz

set_option linter.unusedVariables false
set_option linter.unusedSimpArgs false
namespace Go.Lg.Tryz
open Go Go.Proofs Go.RowKit Go.Lib Go.Lg.Sem
def cnt2 (ch : List Stp) (i : Nat) : Nat := (ch.filter fun a => a.s == i && a.k == 2).length
def cntF (ch : List Stp) (i : Nat) : Nat := (ch.filter fun a => a.s == i && a.k != 2).length
def fleetAt (c : Ctl) (f t : List Int) (ch : List Stp) (i : Nat) : Int × Int := (vAt f i + (cnt2 ch i : Int) * (vAt t i - vAt f i), 2 * lvl c i (vAt f i) + (cntF ch i : Int))
theorem cnt2_snoc (ch : List Stp) (a : Stp) (i : Nat) : cnt2 (ch ++ [a]) i = cnt2 ch i + if a.s = i ∧ a.k = 2 then 1 else 0 := by
  unfold cnt2
  rw [List.filter_append, List.length_append]
  congr 1
  simp only [List.filter_cons, List.filter_nil, Bool.and_eq_true, beq_iff_eq]
  split <;> rfl
theorem cntF_snoc (ch : List Stp) (a : Stp) (i : Nat) : cntF (ch ++ [a]) i = cntF ch i + if a.s = i ∧ a.k ≠ 2 then 1 else 0 := by
  unfold cntF
  rw [List.filter_append, List.length_append]
  congr 1
  simp only [List.filter_cons, List.filter_nil, Bool.and_eq_true, beq_iff_eq, bne_iff_ne]
  split <;> rfl
theorem nodup_count {α : Type} [DecidableEq α] (x : α) {l : List α} (h : l.Nodup) : (l.filter fun b => b == x).length = if x ∈ l then 1 else 0 := by
  have h1 := nodup_eq_len x l h
  split
  · rename_i hm
    have : x ∈ l.filter fun b => b == x := List.mem_filter.2 ⟨hm, by simp⟩
    have := List.length_pos_of_mem this
    omega
  · rename_i hm
    have : l.filter (fun b => b == x) = [] := by
      rw [List.filter_eq_nil_iff]
      intro b hb hbe
      have : b = x := by simpa using hbe
      exact hm (this ▸ hb)
    rw [this]; rfl
theorem cnt2_eq {ch : List Stp} (h : ch.Nodup) (i : Nat) : cnt2 ch i = if (⟨i, 2⟩ : Stp) ∈ ch then 1 else 0 := by
  rw [← nodup_count _ h]
  unfold cnt2
  refine congrArg List.length (List.filter_congr fun a _ => ?_)
  rw [Bool.eq_iff_iff]
  cases a with
  | mk s k => simp
theorem cntF_eq {ch : List Stp} (h : ch.Nodup) (hk : ∀ a, a ∈ ch → a.k = 1 ∨ a.k = 2 ∨ a.k = 3) (i : Nat) : cntF ch i = (if (⟨i, 1⟩ : Stp) ∈ ch then 1 else 0) + if (⟨i, 3⟩ : Stp) ∈ ch then 1 else 0 := by
  rw [← nodup_count _ h, ← nodup_count _ h]
  unfold cntF
  clear h
  induction ch with
  | nil => rfl
  | cons a ch ih =>
    have ih := ih (fun b hb => hk b (List.mem_cons_of_mem _ hb))
    have ha := hk a (List.mem_cons_self ..)
    cases a with
    | mk s k =>
      simp only at ha
      simp only [List.filter_cons]
      by_cases hs : s = i
      · subst hs
        rcases ha with rfl | rfl | rfl
        · have e1 : ((⟨s, 1⟩ : Stp) == (⟨s, 1⟩ : Stp)) = true := by simp
          have e2 : ((⟨s, 1⟩ : Stp) == (⟨s, 3⟩ : Stp)) = false := by simp
          rw [e1, e2]; simp; omega
        · have e1 : ((⟨s, 2⟩ : Stp) == (⟨s, 1⟩ : Stp)) = false := by simp
          have e2 : ((⟨s, 2⟩ : Stp) == (⟨s, 3⟩ : Stp)) = false := by simp
          rw [e1, e2]; simpa using ih
        · have e1 : ((⟨s, 3⟩ : Stp) == (⟨s, 1⟩ : Stp)) = false := by simp
          have e2 : ((⟨s, 3⟩ : Stp) == (⟨s, 3⟩ : Stp)) = true := by simp
          rw [e1, e2]; simp; omega
      · have e1 : ((⟨s, k⟩ : Stp) == (⟨i, 1⟩ : Stp)) = false := by simp [hs]
        have e2 : ((⟨s, k⟩ : Stp) == (⟨i, 3⟩ : Stp)) = false := by simp [hs]
        rw [e1, e2]; simpa [hs] using ih
structure Cls (c : Ctl) (f t : List Int) (ch : List Stp) : Prop where
  nodup : ch.Nodup
  sub : ∀ a, a ∈ ch → a ∈ stepsV c f t
  clo : ∀ a b, a ∈ stepsV c f t → aheadS c f t a b = true → b ∈ ch → a ∈ ch
structure Ends0 (c : Ctl) (f t : List Int) : Prop where
  rf : rightV c f = true
  rt : rightV c t = true
  gf : goodB c (pls c f) = true
  gt : goodB c (pls c t) = true
  rise : ∀ i, i < f.length → riseV c f t i = 0 ∨ riseV c f t i = 1
theorem ends0 {c : Ctl} {f t : List Int} (h : endsV c f t = 0) : Ends0 c f t := by
  unfold endsV at h
  split at h
  · omega
  · rename_i h1
    split at h
    · omega
    · rename_i h2
      split at h
      · omega
      · rename_i h3
        simp only [not_or, Bool.not_eq_false] at h1 h2
        rw [Bool.not_eq_true, ← Bool.not_eq_true, List.any_eq_true] at h3
        refine ⟨h1.1, h1.2, h2.1, h2.2, fun i hi => ?_⟩
        apply Classical.byContradiction
        intro hc
        refine h3 ⟨i, List.mem_range.2 hi, ?_⟩
        rw [Bool.or_eq_true, decide_eq_true_eq, decide_eq_true_eq]
        omega
theorem step_in {c : Ctl} {f t : List Int} {i : Nat} (hi : i < f.length) (k : Nat) : (⟨i, k⟩ : Stp) ∈ stepsV c f t ↔ vAt f i ≠ vAt t i ∧ (if riseV c f t i = 0 then k = 2 else k = 1 ∨ k = 2 ∨ k = 3) := by
  unfold stepsV
  rw [stepsUp_mem]
  simp only
  unfold stepsAt
  split
  · rename_i h; simp [h]
  · rename_i h
    split
    · rename_i h2; simp [h, hi]
    · rename_i h2; simp [h, hi]
theorem lvl_of {c : Ctl} {f : List Int} (hr : rightV c f = true) {i : Nat} (hi : i < f.length) : ∃ r, relAt c i (vAt f i) = some r ∧ lvl c i (vAt f i) = r.level := by
  obtain ⟨v, s, r, hv, hs, hv0, hrv, hrel⟩ := (rightV_at hr).2 i hi
  have e : vAt f i = v := by unfold vAt; rw [List.getD_eq_getElem?_getD, hv]; rfl
  rw [e]
  exact ⟨r, hrel, by unfold lvl; rw [hrel]⟩
theorem cls_ver {c : Ctl} {f t : List Int} {ch : List Stp} (hc : Cls c f t ch) {i : Nat} : (fleetAt c f t ch i).1 = if (⟨i, 2⟩ : Stp) ∈ ch then vAt t i else vAt f i := by
  unfold fleetAt
  simp only
  rw [cnt2_eq hc.nodup]
  split
  · simp; omega
  · simp
theorem cls_stands {c : Ctl} {f t : List Int} {ch : List Stp} (he : Ends0 c f t) (hlv : ∀ s, s ∈ c → s.rels.length ≤ 12 ∧ ∀ r, r ∈ s.rels → 0 ≤ r.level ∧ r.level ≤ 1000) (hc : Cls c f t ch) {i : Nat} (hi : i < f.length) :
    standsB c i (fleetAt c f t ch i).1 (fleetAt c f t ch i).2 = true := by
  have hlen : f.length = t.length := (rightV_at he.rf).1.trans (rightV_at he.rt).1.symm
  obtain ⟨rf, h1, h2⟩ := lvl_of he.rf hi
  obtain ⟨rt, h3, h4⟩ := lvl_of he.rt (hlen ▸ hi)
  have lf : 0 ≤ rf.level := by
    obtain ⟨v, s, r, hv, hs, hv0, hrv, hrel⟩ := (rightV_at he.rf).2 i hi
    have e : vAt f i = v := by unfold vAt; rw [List.getD_eq_getElem?_getD, hv]; rfl
    rw [e, hrel] at h1
    obtain rfl := Option.some.inj h1
    exact ((hlv s (List.mem_of_getElem? hs)).2 _ (List.mem_of_getElem? hrv)).1
  have hk : ∀ a, a ∈ ch → a.k = 1 ∨ a.k = 2 ∨ a.k = 3 := fun a ha => (stepsAt_mem (stepsUp_mem.1 (hc.sub a ha)).2).2
  have hver := cls_ver hc (i := i)
  have hph : (fleetAt c f t ch i).2 = 2 * rf.level + (((if (⟨i, 1⟩ : Stp) ∈ ch then 1 else 0) + if (⟨i, 3⟩ : Stp) ∈ ch then 1 else 0 : Nat) : Int) := by
    unfold fleetAt; simp only; rw [cntF_eq hc.nodup hk, h2]
  rw [hver, hph]
  have in_ : ∀ k, (⟨i, k⟩ : Stp) ∈ ch → vAt f i ≠ vAt t i ∧ (if riseV c f t i = 0 then k = 2 else k = 1 ∨ k = 2 ∨ k = 3) := fun k h => (step_in hi k).1 (hc.sub _ h)
  have hrise : riseV c f t i = rt.level - rf.level := by unfold riseV; rw [h2, h4]
  have nx : ∀ k, riseV c f t i = 1 → vAt f i ≠ vAt t i → (k = 1 ∨ k = 2) → (⟨i, k + 1⟩ : Stp) ∈ ch → (⟨i, k⟩ : Stp) ∈ ch := fun k h1 hne hk h => by
    refine hc.clo ⟨i, k⟩ ⟨i, k + 1⟩ ((step_in hi k).2 ⟨hne, ?_⟩) ?_ h
    · rw [if_neg (by omega)]; omega
    · unfold aheadS; simp
  unfold standsB
  by_cases h2c : (⟨i, 2⟩ : Stp) ∈ ch
  · obtain ⟨hne, hk2⟩ := in_ 2 h2c
    rw [if_pos h2c, h3]
    rcases he.rise i hi with h0 | h0
    · have n1 : (⟨i, 1⟩ : Stp) ∉ ch := fun h => by have := (in_ 1 h).2; rw [if_pos h0] at this; omega
      have n3 : (⟨i, 3⟩ : Stp) ∉ ch := fun h => by have := (in_ 3 h).2; rw [if_pos h0] at this; omega
      rw [if_neg n1, if_neg n3]
      simp only [Bool.and_eq_true, decide_eq_true_eq]
      omega
    · have y1 := nx 1 h0 hne (.inl rfl) h2c
      rw [if_pos y1]
      split <;> simp only [Bool.and_eq_true, decide_eq_true_eq] <;> omega
  · rw [if_neg h2c, h1]
    have n3 : (⟨i, 3⟩ : Stp) ∉ ch := fun h => by
      obtain ⟨hne, hk3⟩ := in_ 3 h
      rcases he.rise i hi with h0 | h0
      · rw [if_pos h0] at hk3; omega
      · exact h2c (nx 2 h0 hne (.inr rfl) h)
    rw [if_neg n3]
    split <;> simp only [Bool.and_eq_true, decide_eq_true_eq] <;> omega
theorem good_fits {c : Ctl} (hlv : ∀ s, s ∈ c → s.rels.length ≤ 12 ∧ ∀ r, r ∈ s.rels → 0 ≤ r.level ∧ r.level ≤ 1000) {f : List Int} (hr : rightV c f = true) (hg : goodB c (pls c f) = true) {i j : Nat} (hi : i < f.length) (hj : j < f.length) (hne : i ≠ j) : fitsB c i (vAt f i) j (vAt f j) = true := by
  have h := (good_iff hlv hr).1 hg
  rcases Nat.lt_or_ge j i with hl | hl
  · exact h i j hl hi
  · rw [fits_comm]; exact h j i (by omega) hj
theorem cls_fits {c : Ctl} {f t : List Int} {ch : List Stp} (he : Ends0 c f t) (hlv : ∀ s, s ∈ c → s.rels.length ≤ 12 ∧ ∀ r, r ∈ s.rels → 0 ≤ r.level ∧ r.level ≤ 1000) (hc : Cls c f t ch) {i j : Nat} (hi : i < f.length) (hj : j < f.length) (hne : i ≠ j) :
    fitsB c i (fleetAt c f t ch i).1 j (fleetAt c f t ch j).1 = true := by
  have hlen : f.length = t.length := (rightV_at he.rf).1.trans (rightV_at he.rt).1.symm
  have mixed : ∀ {i j : Nat}, i < f.length → j < f.length → i ≠ j → (⟨i, 2⟩ : Stp) ∈ ch → (⟨j, 2⟩ : Stp) ∉ ch → fitsB c i (vAt t i) j (vAt f j) = true := by
    intro i j hi hj hne hi2 hj2
    by_cases ej : vAt f j = vAt t j
    · rw [ej]; exact good_fits hlv he.rt he.gt (hlen ▸ hi) (hlen ▸ hj) hne
    · have hjL : (⟨j, 2⟩ : Stp) ∈ stepsV c f t := (step_in hj 2).2 ⟨ej, by split <;> simp⟩
      rw [fits_comm]
      apply Classical.byContradiction
      intro hf
      refine hj2 (hc.clo ⟨j, 2⟩ ⟨i, 2⟩ hjL ?_ hi2)
      unfold aheadS
      rw [if_neg (fun e => hne e.symm)]
      rw [Bool.not_eq_true] at hf
      simp [hf]
  rw [cls_ver hc, cls_ver hc]
  by_cases h1 : (⟨i, 2⟩ : Stp) ∈ ch <;> by_cases h2 : (⟨j, 2⟩ : Stp) ∈ ch
  · rw [if_pos h1, if_pos h2]; exact good_fits hlv he.rt he.gt (hlen ▸ hi) (hlen ▸ hj) hne
  · rw [if_pos h1, if_neg h2]; exact mixed hi hj hne h1 h2
  · rw [if_neg h1, if_pos h2, fits_comm]; exact mixed hj hi (fun e => hne e.symm) h2 h1
  · rw [if_neg h1, if_neg h2]; exact good_fits hlv he.rf he.gf hi hj hne
end Go.Lg.Tryz

set_option linter.unusedVariables false
set_option linter.unusedSimpArgs false
namespace Go.Lg.Tryz
open Go Go.Proofs Go.RowKit Go.Lib Go.Lg.Sem
abbrev LvOk (c : Ctl) : Prop := ∀ s, s ∈ c → s.rels.length ≤ 12 ∧ ∀ r, r ∈ s.rels → 0 ≤ r.level ∧ r.level ≤ 1000
theorem vAt_of {f : List Int} {i : Nat} {v : Int} (h : f[i]? = some v) : vAt f i = v := by unfold vAt; rw [List.getD_eq_getElem?_getD, h]; rfl
theorem rise_ok {c : Ctl} (hlv : LvOk c) {f t : List Int} (hf : rightV c f = true) (ht : rightV c t = true) {i : Nat} (hi : i < f.length) :
    Fn Tryz.prog Gw 83 [.tr (ctlT c), .tr (.ls (f.map intT)), .tr (.ls (t.map intT)), int i] [] (· = int (riseV c f t i)) := by
  obtain ⟨hfl, hfa⟩ := rightV_at hf
  obtain ⟨htl, hta⟩ := rightV_at ht
  obtain ⟨v, s, r, hv, hs, hv0, hr, hrel⟩ := hfa i hi
  obtain ⟨w, s', g, hw, hs', hw0, hq, hqel⟩ := hta i (by omega)
  obtain rfl : s = s' := by rw [hs] at hs'; exact Option.some.inj hs'
  obtain ⟨l0, l1⟩ := (hlv s (List.mem_of_getElem? hs)).2 r (List.mem_of_getElem? hr)
  obtain ⟨m0, m1⟩ := (hlv s (List.mem_of_getElem? hs)).2 g (List.mem_of_getElem? hq)
  have hve : (f.map intT)[((i : Nat) : Int).toNat]? = some (intT v) := by simp [hv]
  have hwe : (t.map intT)[((i : Nat) : Int).toNat]? = some (intT w) := by simp [hw]
  have hse : (c.map svcT)[((i : Nat) : Int).toNat]? = some (svcT s) := by simp [hs]
  have hre : (s.rels.map rlsT)[v.toNat]? = some (rlsT r) := by simp [hr]
  have hqe : (s.rels.map rlsT)[w.toNat]? = some (rlsT g) := by simp [hq]
  have hrise : riseV c f t i = g.level - r.level := by unfold riseV lvl; rw [vAt_of hv, vAt_of hw, hrel, hqel]
  refine Fn.of tab_ok Tryz.func83 rfl (by decide) (by simp [Tryz.f83]) rfl (fun κ v h => by cases h) Gw.below ?_
  repeat' (first|refine zS ?_|refine zR ?_|refine zE tab_ok rfl rfl ?_|refine zN ?_|(refine zG rfl rfl (fun _ => ?_) fun _ => ?_)<;>refine zE tab_ok rfl rfl ?_|(refine zC rfl (fun _ => ?_) fun _ => ?_)<;>try (rename_i h; cases h; done)|refine zB ?_|refine zK ?_|refine zZ ⟨_, rfl, ?_⟩)
  refine zI (x := svcT s) tab_ok rfl (by omega) (hse) rfl ?_
  repeat' (first|refine zS ?_|refine zR ?_|refine zE tab_ok rfl rfl ?_|refine zN ?_|(refine zG rfl rfl (fun _ => ?_) fun _ => ?_)<;>refine zE tab_ok rfl rfl ?_|(refine zC rfl (fun _ => ?_) fun _ => ?_)<;>try (rename_i h; cases h; done)|refine zB ?_|refine zK ?_|refine zZ ⟨_, rfl, ?_⟩)
  refine Tr.drawn ( zD tab_ok rfl rfl <| zD tab_ok rfl rfl <| zD tab_ok rfl rfl <| zO rfl (fun q K hK => zI (x := intT w) tab_ok rfl (by omega) (hwe) rfl (zN hK)) <| zD tab_ok rfl rfl <| zO rfl (fun q K hK => zI (x := rlsT g) tab_ok rfl (by omega) (hqe) rfl (zN hK)) <| zD tab_ok rfl rfl <| zD tab_ok rfl rfl <| zD tab_ok rfl rfl <| zD tab_ok rfl rfl <| zD tab_ok rfl rfl <| zO rfl (fun q K hK => zI (x := intT v) tab_ok rfl (by omega) (hve) rfl (zN hK)) <| zD tab_ok rfl rfl <| zO rfl (fun q K hK => zI (x := rlsT r) tab_ok rfl (by omega) (hre) rfl (zN hK)) <| zD tab_ok rfl rfl <| zD tab_ok rfl rfl <| DSq.evr tab_ok rfl (congrArg int (Go.IntWalk.i64_in (g.level - r.level) ⟨by omega, by omega⟩)) <| zD tab_ok rfl rfl <| DSq.nil _) mix_ok rfl ?_
  repeat' (first|refine zS ?_|refine zR ?_|refine zE tab_ok rfl rfl ?_|refine zN ?_|(refine zG rfl rfl (fun _ => ?_) fun _ => ?_)<;>refine zE tab_ok rfl rfl ?_|(refine zC rfl (fun _ => ?_) fun _ => ?_)<;>try (rename_i h; cases h; done)|refine zB ?_|refine zK ?_|refine zZ ⟨_, rfl, ?_⟩)
  rw [hrise]
theorem ends_ok {c : Ctl} (hok : Ctl.ok c) (hc : c.length ≤ 1000000) (hlv : LvOk c) (f t : List Int) :
    Fn Tryz.prog Gw 45 [.tr (ctlT c), .tr (.ls (f.map intT)), .tr (.ls (t.map intT))] [] (· = int (endsV c f t)) := by
  have hA := Settled_ok hc hlv f
  have hB := Settled_ok hc hlv t
  unfold settledA at hA hB
  unfold endsV
  cases hf : rightV c f
  · rw [hf] at hA
    rw [if_pos (.inl rfl)]
    cases ht : rightV c t
    · rw [ht] at hB
      refine Fn.of tab_ok Tryz.func45 rfl (by decide) (by simp [Tryz.f45]) rfl (fun κ v h => by cases h) Gw.below ?_
      repeat' (first|refine zS ?_|refine zR ?_|refine zE tab_ok rfl rfl ?_|refine zN ?_|(refine zG rfl rfl (fun _ => ?_) fun _ => ?_)<;>refine zE tab_ok rfl rfl ?_|(refine zC rfl (fun _ => ?_) fun _ => ?_)<;>try (rename_i h; cases h; done)|refine zB ?_|refine zK ?_|refine zZ ⟨_, rfl, ?_⟩)
      refine Sq.callv rfl (hA) ?_
      repeat' (first|refine zS ?_|refine zR ?_|refine zE tab_ok rfl rfl ?_|refine zN ?_|(refine zG rfl rfl (fun _ => ?_) fun _ => ?_)<;>refine zE tab_ok rfl rfl ?_|(refine zC rfl (fun _ => ?_) fun _ => ?_)<;>try (rename_i h; cases h; done)|refine zB ?_|refine zK ?_|refine zZ ⟨_, rfl, ?_⟩)
      refine Sq.callv rfl (hB) ?_
      repeat' (first|refine zS ?_|refine zR ?_|refine zE tab_ok rfl rfl ?_|refine zN ?_|(refine zG rfl rfl (fun _ => ?_) fun _ => ?_)<;>refine zE tab_ok rfl rfl ?_|(refine zC rfl (fun _ => ?_) fun _ => ?_)<;>try (rename_i h; cases h; done)|refine zB ?_|refine zK ?_|refine zZ ⟨_, rfl, ?_⟩)
      rfl
    · rw [ht] at hB
      generalize ((List.range t.length).map (placeAt c t)) = L at *
      refine Fn.of tab_ok Tryz.func45 rfl (by decide) (by simp [Tryz.f45]) rfl (fun κ v h => by cases h) Gw.below ?_
      repeat' (first|refine zS ?_|refine zR ?_|refine zE tab_ok rfl rfl ?_|refine zN ?_|(refine zG rfl rfl (fun _ => ?_) fun _ => ?_)<;>refine zE tab_ok rfl rfl ?_|(refine zC rfl (fun _ => ?_) fun _ => ?_)<;>try (rename_i h; cases h; done)|refine zB ?_|refine zK ?_|refine zZ ⟨_, rfl, ?_⟩)
      refine Sq.callv rfl (hA) ?_
      repeat' (first|refine zS ?_|refine zR ?_|refine zE tab_ok rfl rfl ?_|refine zN ?_|(refine zG rfl rfl (fun _ => ?_) fun _ => ?_)<;>refine zE tab_ok rfl rfl ?_|(refine zC rfl (fun _ => ?_) fun _ => ?_)<;>try (rename_i h; cases h; done)|refine zB ?_|refine zK ?_|refine zZ ⟨_, rfl, ?_⟩)
      refine Sq.callv rfl (hB) ?_
      repeat' (first|refine zS ?_|refine zR ?_|refine zE tab_ok rfl rfl ?_|refine zN ?_|(refine zG rfl rfl (fun _ => ?_) fun _ => ?_)<;>refine zE tab_ok rfl rfl ?_|(refine zC rfl (fun _ => ?_) fun _ => ?_)<;>try (rename_i h; cases h; done)|refine zB ?_|refine zK ?_|refine zZ ⟨_, rfl, ?_⟩)
      rfl
  rw [hf, if_pos rfl, ← pls_t] at hA
  have hG := Good_ok hok (fun s hs => (hlv s hs).2) hc (pls c f) (pls_ok hf hlv)
  cases ht : rightV c t
  · rw [ht] at hB
    rw [if_pos (.inr rfl)]
    generalize (pls c f).map plT = L at *
    refine Fn.of tab_ok Tryz.func45 rfl (by decide) (by simp [Tryz.f45]) rfl (fun κ v h => by cases h) Gw.below ?_
    repeat' (first|refine zS ?_|refine zR ?_|refine zE tab_ok rfl rfl ?_|refine zN ?_|(refine zG rfl rfl (fun _ => ?_) fun _ => ?_)<;>refine zE tab_ok rfl rfl ?_|(refine zC rfl (fun _ => ?_) fun _ => ?_)<;>try (rename_i h; cases h; done)|refine zB ?_|refine zK ?_|refine zZ ⟨_, rfl, ?_⟩)
    refine Sq.callv rfl (hA) ?_
    repeat' (first|refine zS ?_|refine zR ?_|refine zE tab_ok rfl rfl ?_|refine zN ?_|(refine zG rfl rfl (fun _ => ?_) fun _ => ?_)<;>refine zE tab_ok rfl rfl ?_|(refine zC rfl (fun _ => ?_) fun _ => ?_)<;>try (rename_i h; cases h; done)|refine zB ?_|refine zK ?_|refine zZ ⟨_, rfl, ?_⟩)
    refine Sq.callv rfl (hB) ?_
    repeat' (first|refine zS ?_|refine zR ?_|refine zE tab_ok rfl rfl ?_|refine zN ?_|(refine zG rfl rfl (fun _ => ?_) fun _ => ?_)<;>refine zE tab_ok rfl rfl ?_|(refine zC rfl (fun _ => ?_) fun _ => ?_)<;>try (rename_i h; cases h; done)|refine zB ?_|refine zK ?_|refine zZ ⟨_, rfl, ?_⟩)
    rfl
  rw [ht, if_pos rfl, ← pls_t] at hB
  have hG2 := Good_ok hok (fun s hs => (hlv s hs).2) hc (pls c t) (pls_ok ht hlv)
  rw [if_neg (by simp)]
  cases hg : goodB c (pls c f)
  · rw [hg] at hG
    rw [if_pos (.inl rfl)]
    generalize (pls c f).map plT = L1 at *
    generalize (pls c t).map plT = L2 at *
    refine Fn.of tab_ok Tryz.func45 rfl (by decide) (by simp [Tryz.f45]) rfl (fun κ v h => by cases h) Gw.below ?_
    repeat' (first|refine zS ?_|refine zR ?_|refine zE tab_ok rfl rfl ?_|refine zN ?_|(refine zG rfl rfl (fun _ => ?_) fun _ => ?_)<;>refine zE tab_ok rfl rfl ?_|(refine zC rfl (fun _ => ?_) fun _ => ?_)<;>try (rename_i h; cases h; done)|refine zB ?_|refine zK ?_|refine zZ ⟨_, rfl, ?_⟩)
    refine Sq.callv rfl (hA) ?_
    repeat' (first|refine zS ?_|refine zR ?_|refine zE tab_ok rfl rfl ?_|refine zN ?_|(refine zG rfl rfl (fun _ => ?_) fun _ => ?_)<;>refine zE tab_ok rfl rfl ?_|(refine zC rfl (fun _ => ?_) fun _ => ?_)<;>try (rename_i h; cases h; done)|refine zB ?_|refine zK ?_|refine zZ ⟨_, rfl, ?_⟩)
    refine Sq.callv rfl (hB) ?_
    repeat' (first|refine zS ?_|refine zR ?_|refine zE tab_ok rfl rfl ?_|refine zN ?_|(refine zG rfl rfl (fun _ => ?_) fun _ => ?_)<;>refine zE tab_ok rfl rfl ?_|(refine zC rfl (fun _ => ?_) fun _ => ?_)<;>try (rename_i h; cases h; done)|refine zB ?_|refine zK ?_|refine zZ ⟨_, rfl, ?_⟩)
    refine Sq.callv rfl (hG) ?_
    repeat' (first|refine zS ?_|refine zR ?_|refine zE tab_ok rfl rfl ?_|refine zN ?_|(refine zG rfl rfl (fun _ => ?_) fun _ => ?_)<;>refine zE tab_ok rfl rfl ?_|(refine zC rfl (fun _ => ?_) fun _ => ?_)<;>try (rename_i h; cases h; done)|refine zB ?_|refine zK ?_|refine zZ ⟨_, rfl, ?_⟩)
    rfl
  rw [hg] at hG
  cases hg2 : goodB c (pls c t)
  · rw [hg2] at hG2
    rw [if_pos (.inr rfl)]
    generalize (pls c f).map plT = L1 at *
    generalize (pls c t).map plT = L2 at *
    refine Fn.of tab_ok Tryz.func45 rfl (by decide) (by simp [Tryz.f45]) rfl (fun κ v h => by cases h) Gw.below ?_
    repeat' (first|refine zS ?_|refine zR ?_|refine zE tab_ok rfl rfl ?_|refine zN ?_|(refine zG rfl rfl (fun _ => ?_) fun _ => ?_)<;>refine zE tab_ok rfl rfl ?_|(refine zC rfl (fun _ => ?_) fun _ => ?_)<;>try (rename_i h; cases h; done)|refine zB ?_|refine zK ?_|refine zZ ⟨_, rfl, ?_⟩)
    refine Sq.callv rfl (hA) ?_
    repeat' (first|refine zS ?_|refine zR ?_|refine zE tab_ok rfl rfl ?_|refine zN ?_|(refine zG rfl rfl (fun _ => ?_) fun _ => ?_)<;>refine zE tab_ok rfl rfl ?_|(refine zC rfl (fun _ => ?_) fun _ => ?_)<;>try (rename_i h; cases h; done)|refine zB ?_|refine zK ?_|refine zZ ⟨_, rfl, ?_⟩)
    refine Sq.callv rfl (hB) ?_
    repeat' (first|refine zS ?_|refine zR ?_|refine zE tab_ok rfl rfl ?_|refine zN ?_|(refine zG rfl rfl (fun _ => ?_) fun _ => ?_)<;>refine zE tab_ok rfl rfl ?_|(refine zC rfl (fun _ => ?_) fun _ => ?_)<;>try (rename_i h; cases h; done)|refine zB ?_|refine zK ?_|refine zZ ⟨_, rfl, ?_⟩)
    refine Sq.callv rfl (hG) ?_
    repeat' (first|refine zS ?_|refine zR ?_|refine zE tab_ok rfl rfl ?_|refine zN ?_|(refine zG rfl rfl (fun _ => ?_) fun _ => ?_)<;>refine zE tab_ok rfl rfl ?_|(refine zC rfl (fun _ => ?_) fun _ => ?_)<;>try (rename_i h; cases h; done)|refine zB ?_|refine zK ?_|refine zZ ⟨_, rfl, ?_⟩)
    refine Sq.callv rfl (hG2) ?_
    repeat' (first|refine zS ?_|refine zR ?_|refine zE tab_ok rfl rfl ?_|refine zN ?_|(refine zG rfl rfl (fun _ => ?_) fun _ => ?_)<;>refine zE tab_ok rfl rfl ?_|(refine zC rfl (fun _ => ?_) fun _ => ?_)<;>try (rename_i h; cases h; done)|refine zB ?_|refine zK ?_|refine zZ ⟨_, rfl, ?_⟩)
    rfl
  rw [hg2] at hG2
  rw [if_neg (by simp)]
  have hfl := (rightV_at hf).1
  have hrise : ∀ i, i < f.length → Fn Tryz.prog Gw 83 [.tr (ctlT c), .tr (.ls (f.map intT)), .tr (.ls (t.map intT)), int i] [] (· = int (riseV c f t i)) := fun i hi => rise_ok hlv hf ht hi
  generalize (pls c f).map plT = L1 at *
  generalize (pls c t).map plT = L2 at *
  refine Fn.of tab_ok Tryz.func45 rfl (by decide) (by simp [Tryz.f45]) rfl (fun κ v h => by cases h) Gw.below ?_
  repeat' (first|refine zS ?_|refine zR ?_|refine zE tab_ok rfl rfl ?_|refine zN ?_|(refine zG rfl rfl (fun _ => ?_) fun _ => ?_)<;>refine zE tab_ok rfl rfl ?_|(refine zC rfl (fun _ => ?_) fun _ => ?_)<;>try (rename_i h; cases h; done)|refine zB ?_|refine zK ?_|refine zZ ⟨_, rfl, ?_⟩)
  refine Sq.callv rfl (hA) ?_
  repeat' (first|refine zS ?_|refine zR ?_|refine zE tab_ok rfl rfl ?_|refine zN ?_|(refine zG rfl rfl (fun _ => ?_) fun _ => ?_)<;>refine zE tab_ok rfl rfl ?_|(refine zC rfl (fun _ => ?_) fun _ => ?_)<;>try (rename_i h; cases h; done)|refine zB ?_|refine zK ?_|refine zZ ⟨_, rfl, ?_⟩)
  refine Sq.callv rfl (hB) ?_
  repeat' (first|refine zS ?_|refine zR ?_|refine zE tab_ok rfl rfl ?_|refine zN ?_|(refine zG rfl rfl (fun _ => ?_) fun _ => ?_)<;>refine zE tab_ok rfl rfl ?_|(refine zC rfl (fun _ => ?_) fun _ => ?_)<;>try (rename_i h; cases h; done)|refine zB ?_|refine zK ?_|refine zZ ⟨_, rfl, ?_⟩)
  refine Sq.callv rfl (hG) ?_
  repeat' (first|refine zS ?_|refine zR ?_|refine zE tab_ok rfl rfl ?_|refine zN ?_|(refine zG rfl rfl (fun _ => ?_) fun _ => ?_)<;>refine zE tab_ok rfl rfl ?_|(refine zC rfl (fun _ => ?_) fun _ => ?_)<;>try (rename_i h; cases h; done)|refine zB ?_|refine zK ?_|refine zZ ⟨_, rfl, ?_⟩)
  refine Sq.callv rfl (hG2) ?_
  repeat' (first|refine zS ?_|refine zR ?_|refine zE tab_ok rfl rfl ?_|refine zN ?_|(refine zG rfl rfl (fun _ => ?_) fun _ => ?_)<;>refine zE tab_ok rfl rfl ?_|(refine zC rfl (fun _ => ?_) fun _ => ?_)<;>try (rename_i h; cases h; done)|refine zB ?_|refine zK ?_|refine zZ ⟨_, rfl, ?_⟩)
  refine Tr.loopS (fun i : Nat => [(.s 1, .tr (.ls (f.map intT))), (.s 2, .tr (.ls (t.map intT))), (.s 3, .ptr (.l 3) 0), (.l 3, .blk 24 [.tr (.ls (c.map svcT))]), (.s 44, int (f.map intT).length), (.s 45, int i)]) (fun i => f.length - i) (fun i => i ≤ f.length ∧ ∀ k, k < i → (decide (riseV c f t k < 0) || decide (riseV c f t k > 1)) = false)
    0 ⟨by omega, by intro b hb; omega⟩ (Sub.app (l := [_, _, _, _, _, _]) (H := []) ⟨rfl, rfl, rfl, rfl, rfl, rfl, trivial⟩ (fun κ v h => nomatch h)) ?_
  rintro i ⟨hi, hno⟩
  repeat' (first|refine zS ?_|refine zR ?_|refine zE tab_ok rfl rfl ?_|refine zN ?_|(refine zG rfl rfl (fun _ => ?_) fun _ => ?_)<;>refine zE tab_ok rfl rfl ?_|(refine zC rfl (fun _ => ?_) fun _ => ?_)<;>try (rename_i h; cases h; done)|refine zB ?_|refine zK ?_|refine zZ ⟨_, rfl, ?_⟩)
  · rename_i h2
    have h2 : decide ((i : Int) < ((f.map intT).length : Int)) = true := h2
    have hlt : i < f.length := by simp only [List.length_map, decide_eq_true_eq] at h2; omega
    have hR := hrise i hlt
    have hany : ∀ z, riseV c f t i = z → (decide (z < 0) || decide (z > 1)) = true → ((List.range f.length).any fun i => decide (riseV c f t i < 0) || decide (riseV c f t i > 1)) = true := fun z hz h => List.any_eq_true.2 ⟨i, List.mem_range.2 hlt, by rw [hz]; exact h⟩
    have hnx : ∀ z, riseV c f t i = z → (decide (z < 0) || decide (z > 1)) = false → ∀ k, k < i + 1 → (decide (riseV c f t k < 0) || decide (riseV c f t k > 1)) = false := fun z hz h k hk => by
      rcases Nat.lt_succ_iff_lt_or_eq.1 hk with h3 | rfl
      · exact hno k h3
      · rw [hz]; exact h
    generalize hz : riseV c f t i = z at *
    refine Sq.callv rfl (hR) ?_
    repeat' (first|refine zS ?_|refine zR ?_|refine zE tab_ok rfl rfl ?_|refine zN ?_|(refine zG rfl rfl (fun _ => ?_) fun _ => ?_)<;>refine zE tab_ok rfl rfl ?_|(refine zC rfl (fun _ => ?_) fun _ => ?_)<;>try (rename_i h; cases h; done)|refine zB ?_|refine zK ?_|refine zZ ⟨_, rfl, ?_⟩)
    · rename_i h3 _
      show int 43 = int _
      rw [if_pos (hany z rfl (by rw [h3]; rfl))]
    · rename_i h3 h4
      show int 43 = int _
      rw [if_pos (hany z rfl (by rw [h3, h4]; rfl))]
    · rename_i h3 h4
      exact ⟨i + 1, ⟨by omega, hnx z rfl (by rw [h3, h4]; rfl)⟩, by omega, Sub.app (l := [_, _, _, _, _, _]) (H := []) ⟨rfl, rfl, rfl, rfl, rfl, congrArg some (wrapz (by omega) (by omega) (by omega)), trivial⟩ (fun κ v h => nomatch h)⟩
  · rename_i h2
    have h2 : decide ((i : Int) < ((f.map intT).length : Int)) = false := h2
    have : i = f.length := by simp only [List.length_map, decide_eq_false_iff_not] at h2; omega
    subst this
    refine Tr.exit ?_
    repeat' (first|refine zS ?_|refine zR ?_|refine zE tab_ok rfl rfl ?_|refine zN ?_|(refine zG rfl rfl (fun _ => ?_) fun _ => ?_)<;>refine zE tab_ok rfl rfl ?_|(refine zC rfl (fun _ => ?_) fun _ => ?_)<;>try (rename_i h; cases h; done)|refine zB ?_|refine zK ?_|refine zZ ⟨_, rfl, ?_⟩)
    show int 0 = int _
    rw [if_neg]
    intro h
    obtain ⟨k, hk, h⟩ := List.any_eq_true.1 h
    rw [hno k (List.mem_range.1 hk)] at h
    cases h
theorem steps_ok {c : Ctl} (hlv : LvOk c) {f t : List Int} (hf : rightV c f = true) (ht : rightV c t = true) (hl : f.length ≤ 1000) :
    Fn Tryz.prog Gw 47 [.tr (ctlT c), .tr (.ls (f.map intT)), .tr (.ls (t.map intT))] [] (· = .tr (.ls ((stepsV c f t).map stpT))) := by
  have htl : t.length = f.length := (rightV_at ht).1.trans (rightV_at hf).1.symm
  have hrise : ∀ i, i < f.length → Fn Tryz.prog Gw 83 [.tr (ctlT c), .tr (.ls (f.map intT)), .tr (.ls (t.map intT)), int i] [] (· = int (riseV c f t i)) := fun i hi => rise_ok hlv hf ht hi
  refine Fn.of tab_ok Tryz.func47 rfl (by decide) (by simp [Tryz.f47]) rfl (fun κ v h => by cases h) Gw.below ?_
  repeat' (first|refine zS ?_|refine zR ?_|refine zE tab_ok rfl rfl ?_|refine zN ?_|(refine zG rfl rfl (fun _ => ?_) fun _ => ?_)<;>refine zE tab_ok rfl rfl ?_|(refine zC rfl (fun _ => ?_) fun _ => ?_)<;>try (rename_i h; cases h; done)|refine zB ?_|refine zK ?_|refine zZ ⟨_, rfl, ?_⟩)
  refine Tr.loopS (fun i : Nat => [(.s 1, .tr (.ls (f.map intT))), (.s 2, .tr (.ls (t.map intT))), (.s 3, .ptr (.l 3) 0), (.l 3, .blk 24 [.tr (.ls (c.map svcT))]), (.s 7, .own 56 ((stepsUp c f t i).map stpT)), (.s 10, int (f.map intT).length), (.s 11, int i)]) (fun i => f.length - i) (fun i => i ≤ f.length)
    0 (by omega) (Sub.app (l := [_, _, _, _, _, _, _]) (H := []) ⟨rfl, rfl, rfl, rfl, rfl, rfl, rfl, trivial⟩ (fun κ v h => nomatch h)) ?_
  rintro i hi
  have hlen := stepsUp_len c f t i
  repeat' (first|refine zS ?_|refine zR ?_|refine zE tab_ok rfl rfl ?_|refine zN ?_|(refine zG rfl rfl (fun _ => ?_) fun _ => ?_)<;>refine zE tab_ok rfl rfl ?_|(refine zC rfl (fun _ => ?_) fun _ => ?_)<;>try (rename_i h; cases h; done)|refine zB ?_|refine zK ?_|refine zZ ⟨_, rfl, ?_⟩)
  · rename_i h2
    have h2 : decide ((i : Int) < ((f.map intT).length : Int)) = true := h2
    have hlt : i < f.length := by simp only [List.length_map, decide_eq_true_eq] at h2; omega
    obtain ⟨v, hv⟩ : ∃ v, f[i]? = some v := ⟨_, List.getElem?_eq_getElem hlt⟩
    obtain ⟨w, hw⟩ : ∃ v, t[i]? = some v := ⟨_, List.getElem?_eq_getElem (by omega)⟩
    have hve : (f.map intT)[((i : Nat) : Int).toNat]? = some (intT v) := by simp [hv]
    have hwe : (t.map intT)[((i : Nat) : Int).toNat]? = some (intT w) := by simp [hw]
    have hsucc := stepsUp_succ c f t i
    have hsa : stepsAt c f t i = if v = w then [] else if riseV c f t i = 0 then [⟨i, 2⟩] else [⟨i, 1⟩, ⟨i, 2⟩, ⟨i, 3⟩] := by unfold stepsAt; rw [vAt_of hv, vAt_of hw]
    have hR := hrise i hlt
    generalize riseV c f t i = z at *
    refine Tr.drawn ( zD tab_ok rfl rfl <| zD tab_ok rfl rfl <| zO rfl (fun q K hK => zI (x := intT v) tab_ok rfl (by omega) (hve) rfl (zN hK)) <| zD tab_ok rfl rfl <| zD tab_ok rfl rfl <| zD tab_ok rfl rfl <| zO rfl (fun q K hK => zI (x := intT w) tab_ok rfl (by omega) (hwe) rfl (zN hK)) <| zD tab_ok rfl rfl <| zD tab_ok rfl rfl <| zD tab_ok rfl rfl <| DSq.nil _) mix_ok rfl ?_
    repeat' (first|refine zS ?_|refine zR ?_|refine zE tab_ok rfl rfl ?_|refine zN ?_|(refine zG rfl rfl (fun _ => ?_) fun _ => ?_)<;>refine zE tab_ok rfl rfl ?_|(refine zC rfl (fun _ => ?_) fun _ => ?_)<;>try (rename_i h; cases h; done)|refine zB ?_|refine zK ?_|refine zZ ⟨_, rfl, ?_⟩)
    · rename_i h3
      have h3 : (v == w) = true := h3
      rw [beq_iff_eq] at h3
      rw [if_pos h3] at hsa
      rw [hsa, List.append_nil] at hsucc
      exact ⟨i + 1, by omega, by omega, Sub.app (l := [_, _, _, _, _, _, _]) (H := []) ⟨rfl, rfl, rfl, rfl, by rw [hsucc]; rfl, rfl, congrArg some (wrapz (by omega) (by omega) (by omega)), trivial⟩ (fun κ v h => nomatch h)⟩
    · rename_i h3
      have h3 : (v == w) = false := h3
      rw [beq_eq_false_iff_ne] at h3
      rw [if_neg h3] at hsa
      refine Sq.callv rfl (hR) ?_
      repeat' (first|refine zS ?_|refine zR ?_|refine zE tab_ok rfl rfl ?_|refine zN ?_|(refine zG rfl rfl (fun _ => ?_) fun _ => ?_)<;>refine zE tab_ok rfl rfl ?_|(refine zC rfl (fun _ => ?_) fun _ => ?_)<;>try (rename_i h; cases h; done)|refine zB ?_|refine zK ?_|refine zZ ⟨_, rfl, ?_⟩)
      · rename_i h4
        have h4 : (z == 0) = true := h4
        rw [beq_iff_eq] at h4
        rw [if_pos h4] at hsa
        refine Sq.append tab_ok rfl (fun y hy => by simp only [List.mem_singleton] at hy; subst hy; rfl) (by simp; omega) ?_
        repeat' (first|refine zS ?_|refine zR ?_|refine zE tab_ok rfl rfl ?_|refine zN ?_|(refine zG rfl rfl (fun _ => ?_) fun _ => ?_)<;>refine zE tab_ok rfl rfl ?_|(refine zC rfl (fun _ => ?_) fun _ => ?_)<;>try (rename_i h; cases h; done)|refine zB ?_|refine zK ?_|refine zZ ⟨_, rfl, ?_⟩)
        exact ⟨i + 1, by omega, by omega, Sub.app (l := [_, _, _, _, _, _, _]) (H := []) ⟨rfl, rfl, rfl, rfl, by rw [hsucc, hsa, List.map_append]; rfl, rfl, congrArg some (wrapz (by omega) (by omega) (by omega)), trivial⟩ (fun κ v h => nomatch h)⟩
      · rename_i h4
        have h4 : (z == 0) = false := h4
        rw [beq_eq_false_iff_ne] at h4
        rw [if_neg h4] at hsa
        refine Sq.append tab_ok rfl (fun y hy => by simp only [List.mem_cons, List.not_mem_nil, or_false] at hy; rcases hy with rfl | rfl | rfl <;> rfl) (by simp; omega) ?_
        repeat' (first|refine zS ?_|refine zR ?_|refine zE tab_ok rfl rfl ?_|refine zN ?_|(refine zG rfl rfl (fun _ => ?_) fun _ => ?_)<;>refine zE tab_ok rfl rfl ?_|(refine zC rfl (fun _ => ?_) fun _ => ?_)<;>try (rename_i h; cases h; done)|refine zB ?_|refine zK ?_|refine zZ ⟨_, rfl, ?_⟩)
        exact ⟨i + 1, by omega, by omega, Sub.app (l := [_, _, _, _, _, _, _]) (H := []) ⟨rfl, rfl, rfl, rfl, by rw [hsucc, hsa, List.map_append]; rfl, rfl, congrArg some (wrapz (by omega) (by omega) (by omega)), trivial⟩ (fun κ v h => nomatch h)⟩
  · rename_i h2
    have h2 : decide ((i : Int) < ((f.map intT).length : Int)) = false := h2
    have : i = f.length := by simp only [List.length_map, decide_eq_false_iff_not] at h2; omega
    subst this
    refine Tr.exit ?_
    repeat' (first|refine zS ?_|refine zR ?_|refine zE tab_ok rfl rfl ?_|refine zN ?_|(refine zG rfl rfl (fun _ => ?_) fun _ => ?_)<;>refine zE tab_ok rfl rfl ?_|(refine zC rfl (fun _ => ?_) fun _ => ?_)<;>try (rename_i h; cases h; done)|refine zB ?_|refine zK ?_|refine zZ ⟨_, rfl, ?_⟩)
    rfl
end Go.Lg.Tryz

set_option linter.unusedVariables false
set_option linter.unusedSimpArgs false
namespace Go.Lg.Tryz
open Go Go.Proofs Go.RowKit Go.Lib Go.Lg.Sem
theorem cloneInts {α : Type} (enc : α → T) (hes : ∀ a, (enc a).cells.length = 1) (xs : List α) (hn : xs.length ≤ 1073741824) : Fn Tryz.prog Gw 46 [.tr (.ls (xs.map enc))] [] (· = .own 3 (xs.map enc)) := by
  refine Fn.of tab_ok Tryz.func46 rfl (by decide) (by simp [Tryz.f46]) rfl (fun κ v h => by cases h) Gw.below ?_
  repeat' (first|refine zS ?_|refine zR ?_|refine zE tab_ok rfl rfl ?_|refine zN ?_|(refine zG rfl rfl (fun _ => ?_) fun _ => ?_)<;>refine zE tab_ok rfl rfl ?_|(refine zC rfl (fun _ => ?_) fun _ => ?_)<;>try (rename_i h; cases h; done)|refine zB ?_|refine zK ?_|refine zZ ⟨_, rfl, ?_⟩)
  refine Sq.eqNil tab_ok rfl (fun b hb => ?_)
  cases b
  · repeat' (first|refine zS ?_|refine zR ?_|refine zE tab_ok rfl rfl ?_|refine zN ?_|(refine zG rfl rfl (fun _ => ?_) fun _ => ?_)<;>refine zE tab_ok rfl rfl ?_|(refine zC rfl (fun _ => ?_) fun _ => ?_)<;>try (rename_i h; cases h; done)|refine zB ?_|refine zK ?_|refine zZ ⟨_, rfl, ?_⟩)
    refine Sq.append tab_ok rfl (fun y hy => by obtain ⟨a, _, rfl⟩ := List.mem_map.1 hy; exact hes a) (by simpa using hn) ?_
    repeat' (first|refine zS ?_|refine zR ?_|refine zE tab_ok rfl rfl ?_|refine zN ?_|(refine zG rfl rfl (fun _ => ?_) fun _ => ?_)<;>refine zE tab_ok rfl rfl ?_|(refine zC rfl (fun _ => ?_) fun _ => ?_)<;>try (rename_i h; cases h; done)|refine zB ?_|refine zK ?_|refine zZ ⟨_, rfl, ?_⟩)
    rfl
  · rw [hb rfl]
    repeat' (first|refine zS ?_|refine zR ?_|refine zE tab_ok rfl rfl ?_|refine zN ?_|(refine zG rfl rfl (fun _ => ?_) fun _ => ?_)<;>refine zE tab_ok rfl rfl ?_|(refine zC rfl (fun _ => ?_) fun _ => ?_)<;>try (rename_i h; cases h; done)|refine zB ?_|refine zK ?_|refine zZ ⟨_, rfl, ?_⟩)
    rfl
theorem cloneEdges {α : Type} (enc : α → T) (hes : ∀ a, (enc a).cells.length = 2) (xs : List α) (hn : xs.length ≤ 1073741824) : Fn Tryz.prog Gw 75 [.tr (.ls (xs.map enc))] [] (· = .own 66 (xs.map enc)) := by
  refine Fn.of tab_ok Tryz.func75 rfl (by decide) (by simp [Tryz.f75]) rfl (fun κ v h => by cases h) Gw.below ?_
  repeat' (first|refine zS ?_|refine zR ?_|refine zE tab_ok rfl rfl ?_|refine zN ?_|(refine zG rfl rfl (fun _ => ?_) fun _ => ?_)<;>refine zE tab_ok rfl rfl ?_|(refine zC rfl (fun _ => ?_) fun _ => ?_)<;>try (rename_i h; cases h; done)|refine zB ?_|refine zK ?_|refine zZ ⟨_, rfl, ?_⟩)
  refine Sq.eqNil tab_ok rfl (fun b hb => ?_)
  cases b
  · repeat' (first|refine zS ?_|refine zR ?_|refine zE tab_ok rfl rfl ?_|refine zN ?_|(refine zG rfl rfl (fun _ => ?_) fun _ => ?_)<;>refine zE tab_ok rfl rfl ?_|(refine zC rfl (fun _ => ?_) fun _ => ?_)<;>try (rename_i h; cases h; done)|refine zB ?_|refine zK ?_|refine zZ ⟨_, rfl, ?_⟩)
    refine Sq.append tab_ok rfl (fun y hy => by obtain ⟨a, _, rfl⟩ := List.mem_map.1 hy; exact hes a) (by simpa using hn) ?_
    repeat' (first|refine zS ?_|refine zR ?_|refine zE tab_ok rfl rfl ?_|refine zN ?_|(refine zG rfl rfl (fun _ => ?_) fun _ => ?_)<;>refine zE tab_ok rfl rfl ?_|(refine zC rfl (fun _ => ?_) fun _ => ?_)<;>try (rename_i h; cases h; done)|refine zB ?_|refine zK ?_|refine zZ ⟨_, rfl, ?_⟩)
    rfl
  · rw [hb rfl]
    repeat' (first|refine zS ?_|refine zR ?_|refine zE tab_ok rfl rfl ?_|refine zN ?_|(refine zG rfl rfl (fun _ => ?_) fun _ => ?_)<;>refine zE tab_ok rfl rfl ?_|(refine zC rfl (fun _ => ?_) fun _ => ?_)<;>try (rename_i h; cases h; done)|refine zB ?_|refine zK ?_|refine zZ ⟨_, rfl, ?_⟩)
    rfl
theorem stepAhead_ok {c : Ctl} (hok : Ctl.ok c) (f t : List Int) (l : List Stp) (e : List (Nat × Nat)) {a b : Stp} (hak : a.k ≤ 3) (hbk : b.k ≤ 3) (ha : a.s < f.length) (hb : b.s < t.length) :
    Fn Tryz.prog Gw 48 [.tr (ctlT c), .tr (plnT ⟨f, t, l, e⟩), .tr (stpT a), .tr (stpT b)] [] (· = bool (aheadS c f t a b)) := by
  obtain ⟨s, k⟩ := a
  obtain ⟨s', k'⟩ := b
  obtain ⟨v, hv⟩ : ∃ v, f[s]? = some v := ⟨_, List.getElem?_eq_getElem ha⟩
  obtain ⟨w, hw⟩ : ∃ v, t[s']? = some v := ⟨_, List.getElem?_eq_getElem hb⟩
  have hve : (f.map intT)[((s : Nat) : Int).toNat]? = some (intT v) := by simp [hv]
  have hwe : (t.map intT)[((s' : Nat) : Int).toNat]? = some (intT w) := by simp [hw]
  have hF := Fits_ok hok s v s' w
  have hak' : k ≤ 3 := hak
  have hbk' : k' ≤ 3 := hbk
  have hwr : IntKind.i64.wrap ((k : Int) + 1) = ((k + 1 : Nat) : Int) := by rw [Go.IntWalk.i64_in _ ⟨by omega, by omega⟩]; rfl
  unfold aheadS
  simp only
  rw [vAt_of hv, vAt_of hw]
  refine Fn.of tab_ok Tryz.func48 rfl (by decide) (by simp [Tryz.f48]) rfl (fun κ v h => by cases h) Gw.below ?_
  repeat' (first|refine zS ?_|refine zR ?_|refine zE tab_ok rfl rfl ?_|refine zN ?_|(refine zG rfl rfl (fun _ => ?_) fun _ => ?_)<;>refine zE tab_ok rfl rfl ?_|(refine zC rfl (fun _ => ?_) fun _ => ?_)<;>try (rename_i h; cases h; done)|refine zB ?_|refine zK ?_|refine zZ ⟨_, rfl, ?_⟩)
  · rename_i h1
    have h1 : ((s : Int) == (s' : Int)) = true := h1
    have h1 : s = s' := by rw [beq_iff_eq] at h1; omega
    rw [if_pos h1]
    show bool ((k' : Int) == IntKind.i64.wrap ((k : Int) + 1)) = _
    rw [hwr]
    have e : ((k' : Int) == ((k + 1 : Nat) : Int)) = (k' == k + 1) := by rw [Bool.eq_iff_iff, beq_iff_eq, beq_iff_eq]; omega
    rw [e]
  rename_i h1
  have h1 : ((s : Int) == (s' : Int)) = false := h1
  have h1 : s ≠ s' := by rw [beq_eq_false_iff_ne] at h1; omega
  rw [if_neg h1]
  cases h2 : ((k : Int) == 2)
  · have h2' : (k == 2) = false := by rw [beq_eq_false_iff_ne] at h2 ⊢; omega
    rw [h2']
    refine Tr.drawn ( zD tab_ok rfl rfl <| zD tab_ok rfl rfl <| DSq.evr tab_ok rfl (congrArg bool h2) <| zD tab_ok rfl rfl <| zD tab_ok rfl rfl <| zD tab_ok rfl rfl <| zD tab_ok rfl rfl <| zD tab_ok rfl rfl <| zD tab_ok rfl rfl <| zD tab_ok rfl rfl <| zD tab_ok rfl rfl <| zD tab_ok rfl rfl <| zD tab_ok rfl rfl <| zD tab_ok rfl rfl <| zD tab_ok rfl rfl <| zD tab_ok rfl rfl <| zD tab_ok rfl rfl <| zD tab_ok rfl rfl <| zD tab_ok rfl rfl <| zD tab_ok rfl rfl <| zD tab_ok rfl rfl <| zD tab_ok rfl rfl <| zD tab_ok rfl rfl <| zD tab_ok rfl rfl <| zD tab_ok rfl rfl <| zD tab_ok rfl rfl <| zD tab_ok rfl rfl <| zD tab_ok rfl rfl <| zD tab_ok rfl rfl <| zD tab_ok rfl rfl <| DSq.nil _) mix_ok rfl ?_
    repeat' (first|refine zS ?_|refine zR ?_|refine zE tab_ok rfl rfl ?_|refine zN ?_|(refine zG rfl rfl (fun _ => ?_) fun _ => ?_)<;>refine zE tab_ok rfl rfl ?_|(refine zC rfl (fun _ => ?_) fun _ => ?_)<;>try (rename_i h; cases h; done)|refine zB ?_|refine zK ?_|refine zZ ⟨_, rfl, ?_⟩)
    rfl
  have h2' : (k == 2) = true := by rw [beq_iff_eq] at h2 ⊢; omega
  rw [h2']
  cases h3 : ((k' : Int) == 2)
  · have h3' : (k' == 2) = false := by rw [beq_eq_false_iff_ne] at h3 ⊢; omega
    rw [h3']
    refine Tr.drawn ( zD tab_ok rfl rfl <| zD tab_ok rfl rfl <| DSq.evr tab_ok rfl (congrArg bool h2) <| zD tab_ok rfl rfl <| zD tab_ok rfl rfl <| zD tab_ok rfl rfl <| DSq.evr tab_ok rfl (congrArg bool h3) <| zD tab_ok rfl rfl <| zD tab_ok rfl rfl <| zD tab_ok rfl rfl <| zD tab_ok rfl rfl <| zD tab_ok rfl rfl <| zD tab_ok rfl rfl <| zD tab_ok rfl rfl <| zD tab_ok rfl rfl <| zD tab_ok rfl rfl <| zD tab_ok rfl rfl <| zD tab_ok rfl rfl <| zD tab_ok rfl rfl <| zD tab_ok rfl rfl <| zD tab_ok rfl rfl <| zD tab_ok rfl rfl <| zD tab_ok rfl rfl <| zD tab_ok rfl rfl <| zD tab_ok rfl rfl <| zD tab_ok rfl rfl <| zD tab_ok rfl rfl <| zD tab_ok rfl rfl <| zD tab_ok rfl rfl <| zD tab_ok rfl rfl <| DSq.nil _) mix_ok rfl ?_
    repeat' (first|refine zS ?_|refine zR ?_|refine zE tab_ok rfl rfl ?_|refine zN ?_|(refine zG rfl rfl (fun _ => ?_) fun _ => ?_)<;>refine zE tab_ok rfl rfl ?_|(refine zC rfl (fun _ => ?_) fun _ => ?_)<;>try (rename_i h; cases h; done)|refine zB ?_|refine zK ?_|refine zZ ⟨_, rfl, ?_⟩)
    rfl
  have h3' : (k' == 2) = true := by rw [beq_iff_eq] at h3 ⊢; omega
  rw [h3']
  refine Tr.drawn ( zD tab_ok rfl rfl <| zD tab_ok rfl rfl <| DSq.evr tab_ok rfl (congrArg bool h2) <| zD tab_ok rfl rfl <| zD tab_ok rfl rfl <| zD tab_ok rfl rfl <| DSq.evr tab_ok rfl (congrArg bool h3) <| zD tab_ok rfl rfl <| zD tab_ok rfl rfl <| zD tab_ok rfl rfl <| zD tab_ok rfl rfl <| zD tab_ok rfl rfl <| zD tab_ok rfl rfl <| zD tab_ok rfl rfl <| zD tab_ok rfl rfl <| zD tab_ok rfl rfl <| zO rfl (fun q K hK => zI (x := intT v) tab_ok rfl (by omega) (hve) rfl (zN hK)) <| zD tab_ok rfl rfl <| zD tab_ok rfl rfl <| zD tab_ok rfl rfl <| zD tab_ok rfl rfl <| zD tab_ok rfl rfl <| zD tab_ok rfl rfl <| zD tab_ok rfl rfl <| zO rfl (fun q K hK => zI (x := intT w) tab_ok rfl (by omega) (hwe) rfl (zN hK)) <| zD tab_ok rfl rfl <| DSq.call rfl (fun _ => rfl) (hF) <| zD tab_ok rfl rfl <| zD tab_ok rfl rfl <| zD tab_ok rfl rfl <| DSq.nil _) mix_ok rfl ?_
  repeat' (first|refine zS ?_|refine zR ?_|refine zE tab_ok rfl rfl ?_|refine zN ?_|(refine zG rfl rfl (fun _ => ?_) fun _ => ?_)<;>refine zE tab_ok rfl rfl ?_|(refine zC rfl (fun _ => ?_) fun _ => ?_)<;>try (rename_i h; cases h; done)|refine zB ?_|refine zK ?_|refine zZ ⟨_, rfl, ?_⟩)
  rfl
theorem graph_ok (f t : List Int) (l : List Stp) (e : List (Nat × Nat)) (he : e.length ≤ 1000) :
    Fn Tryz.prog Gw 39 [.tr (plnT ⟨f, t, l, e⟩)] [] (· = .tr (grT l.length e)) := by
  have hC := cloneEdges edT (fun a => rfl) e (by omega)
  refine Fn.of tab_ok Tryz.func39 rfl (by decide) (by simp [Tryz.f39]) rfl (fun κ v h => by cases h) Gw.below ?_
  repeat' (first|refine zS ?_|refine zR ?_|refine zE tab_ok rfl rfl ?_|refine zN ?_|(refine zG rfl rfl (fun _ => ?_) fun _ => ?_)<;>refine zE tab_ok rfl rfl ?_|(refine zC rfl (fun _ => ?_) fun _ => ?_)<;>try (rename_i h; cases h; done)|refine zB ?_|refine zK ?_|refine zZ ⟨_, rfl, ?_⟩)
  refine Tr.drawn ( zD tab_ok rfl rfl <| zD tab_ok rfl rfl <| zD tab_ok rfl rfl <| zD tab_ok rfl rfl <| zD tab_ok rfl rfl <| DSq.call rfl (fun _ => rfl) (hC) <| zD tab_ok rfl rfl <| zD tab_ok rfl rfl <| DSq.nil _) mix_ok rfl ?_
  repeat' (first|refine zS ?_|refine zR ?_|refine zE tab_ok rfl rfl ?_|refine zN ?_|(refine zG rfl rfl (fun _ => ?_) fun _ => ?_)<;>refine zE tab_ok rfl rfl ?_|(refine zC rfl (fun _ => ?_) fun _ => ?_)<;>try (rename_i h; cases h; done)|refine zB ?_|refine zK ?_|refine zZ ⟨_, rfl, ?_⟩)
  show AV.tr (.ag [.sc (.int .i64 ((l.map stpT).length : Int)), _]) = _
  rw [List.length_map]
theorem steps_facts {c : Ctl} {f t : List Int} (hf : f.length ≤ 12) : (stepsV c f t).length ≤ 36 ∧ ∀ a, a ∈ stepsV c f t → a.s < f.length ∧ a.k ≤ 3 := by
  refine ⟨(bef_bound hf).2, fun a ha => ?_⟩
  obtain ⟨h1, h2⟩ := stepsUp_mem.1 ha
  obtain ⟨_, h3⟩ := stepsAt_mem h2
  exact ⟨h1, by omega⟩
def makeZ (c : Ctl) (f t : List Int) (cyc : Bool) : Int := if endsV c f t = 0 then (if cyc then 44 else 0) else endsV c f t
def plan0 : Pln := ⟨[], [], [], []⟩
def makeP (c : Ctl) (f t : List Int) (cyc : Bool) : Pln := if makeZ c f t cyc = 0 then planV c f t else plan0
set_option maxRecDepth 8192 in
theorem Make_ok {c : Ctl} (hok : Ctl.ok c) (hc : c.length ≤ 12) (hlv : LvOk c) (f t : List Int) (cyc : Bool) (hcyc : cyc = true ↔ CycP (stepsV c f t).length (befV c f t)) (hfl : f.length ≤ 1000) (htl : t.length ≤ 1000) :
    Fn Tryz.prog Gw 14 [.tr (ctlT c), .tr (.ls (f.map intT)), .tr (.ls (t.map intT))] [] (· = .tup [.tr (plnT (makeP c f t cyc)), int (makeZ c f t cyc)]) := by
  have hE := ends_ok hok (by omega) hlv f t
  unfold makeP makeZ
  by_cases he : endsV c f t ≠ 0
  · generalize endsV c f t = z at *
    rw [if_neg he, if_neg he]
    refine Fn.of tab_ok Tryz.func14 rfl (by decide) (by simp [Tryz.f14]) rfl (fun κ v h => by cases h) Gw.below ?_
    repeat' (first|refine zS ?_|refine zR ?_|refine zE tab_ok rfl rfl ?_|refine zN ?_|(refine zG rfl rfl (fun _ => ?_) fun _ => ?_)<;>refine zE tab_ok rfl rfl ?_|(refine zC rfl (fun _ => ?_) fun _ => ?_)<;>try (rename_i h; cases h; done)|refine zB ?_|refine zK ?_|refine zZ ⟨_, rfl, ?_⟩)
    refine Sq.callv rfl (hE) ?_
    repeat' (first|refine zS ?_|refine zR ?_|refine zE tab_ok rfl rfl ?_|refine zN ?_|(refine zG rfl rfl (fun _ => ?_) fun _ => ?_)<;>refine zE tab_ok rfl rfl ?_|(refine zC rfl (fun _ => ?_) fun _ => ?_)<;>try (rename_i h; cases h; done)|refine zB ?_|refine zK ?_|refine zZ ⟨_, rfl, ?_⟩)
    · rfl
    all_goals
      rename_i h
      have h : (z != 0) = false := h
      simp at h; exact absurd h he
  have he : endsV c f t = 0 := Classical.not_not.1 he
  rw [he] at hE
  rw [if_pos he]
  have hends := ends0 he
  have hf12 : f.length ≤ 12 := by have := (rightV_at hends.rf).1; omega
  have htf : t.length = f.length := (rightV_at hends.rt).1.trans (rightV_at hends.rf).1.symm
  have hS := steps_ok hlv hends.rf hends.rt hfl
  obtain ⟨hl36, hin⟩ := steps_facts (c := c) (t := t) hf12
  obtain ⟨hb200, _⟩ := bef_bound (c := c) (t := t) hf12
  have hbp := bef_p c f t
  have hO := Order_ok _ _ (by omega) (by omega) hbp cyc hcyc
  have hCf := cloneInts intT (fun a => rfl) f (by omega)
  have hCt := cloneInts intT (fun a => rfl) t (by omega)
  unfold planV
  rw [show befV c f t = befUp c f t (stepsV c f t) (stepsV c f t).length from rfl] at *
  generalize stepsV c f t = l at *
  have hGr := graph_ok f t l (befUp c f t l l.length) (by omega)
  refine Fn.of tab_ok Tryz.func14 rfl (by decide) (by simp [Tryz.f14]) rfl (fun κ v h => by cases h) Gw.below ?_
  repeat' (first|refine zS ?_|refine zR ?_|refine zE tab_ok rfl rfl ?_|refine zN ?_|(refine zG rfl rfl (fun _ => ?_) fun _ => ?_)<;>refine zE tab_ok rfl rfl ?_|(refine zC rfl (fun _ => ?_) fun _ => ?_)<;>try (rename_i h; cases h; done)|refine zB ?_|refine zK ?_|refine zZ ⟨_, rfl, ?_⟩)
  refine Sq.callv rfl (hE) ?_
  repeat' (first|refine zS ?_|refine zR ?_|refine zE tab_ok rfl rfl ?_|refine zN ?_|(refine zG rfl rfl (fun _ => ?_) fun _ => ?_)<;>refine zE tab_ok rfl rfl ?_|(refine zC rfl (fun _ => ?_) fun _ => ?_)<;>try (rename_i h; cases h; done)|refine zB ?_|refine zK ?_|refine zZ ⟨_, rfl, ?_⟩)
  refine Tr.drawn ( zD tab_ok rfl rfl <| DSq.call rfl (fun _ => rfl) (hCf) <| zD tab_ok rfl rfl <| DSq.call rfl (fun _ => rfl) (hCt) <| zD tab_ok rfl rfl <| zD tab_ok rfl rfl <| zD tab_ok rfl rfl <| DSq.call rfl (fun _ => rfl) (hS) <| zO rfl (fun q K hK => Sq.buildN tab_ok rfl rfl (zN hK)) <| zD tab_ok rfl rfl <| zD tab_ok rfl rfl <| DSq.nil _) mix_ok rfl ?_
  refine Tr.turn (fun Γ a w h => RelX.nilOwn tab_ok h (.l 9) 35 66 [_, _, _] [] rfl rfl rfl) ?_
  repeat' (first|refine zS ?_|refine zR ?_|refine zE tab_ok rfl rfl ?_|refine zN ?_|(refine zG rfl rfl (fun _ => ?_) fun _ => ?_)<;>refine zE tab_ok rfl rfl ?_|(refine zC rfl (fun _ => ?_) fun _ => ?_)<;>try (rename_i h; cases h; done)|refine zB ?_|refine zK ?_|refine zZ ⟨_, rfl, ?_⟩)
  refine Tr.loopS (fun i : Nat => [(.s 3, .ptr (.l 3) 0), (.l 3, .blk 24 [.tr (.ls (c.map svcT))]), (.s 6, .ptr (.l 6) 0), (.l 6, .blk 35 [.own 3 [], .own 3 [], .own 56 [], .own 66 []]), (.s 9, .ptr (.l 9) 0), (.l 9, .blk 35 [.tr (.ls (f.map intT)), .tr (.ls (t.map intT)), .tr (.ls (l.map stpT)), .own 66 ((befUp c f t l i).map edT)]), (.s 34, .tr (.ls (l.map stpT))), (.s 35, int (l.map stpT).length), (.s 36, int i)]) (fun i => l.length - i) (fun i => i ≤ l.length)
    0 (by omega) (Sub.app (l := [_, _, _, _, _, _, _, _, _]) (H := []) ⟨rfl, rfl, rfl, rfl, rfl, rfl, rfl, rfl, rfl, trivial⟩ (fun κ v h => nomatch h)) ?_
  rintro i hi
  have hbl := befUp_len c f t l i
  have hbl2 : i * l.length ≤ 36 * 36 := Nat.mul_le_mul (by omega) hl36
  repeat' (first|refine zS ?_|refine zR ?_|refine zE tab_ok rfl rfl ?_|refine zN ?_|(refine zG rfl rfl (fun _ => ?_) fun _ => ?_)<;>refine zE tab_ok rfl rfl ?_|(refine zC rfl (fun _ => ?_) fun _ => ?_)<;>try (rename_i h; cases h; done)|refine zB ?_|refine zK ?_|refine zZ ⟨_, rfl, ?_⟩)
  · rename_i h2
    have h2 : decide ((i : Int) < ((l.map stpT).length : Int)) = true := h2
    have hlt : i < l.length := by simp only [List.length_map, decide_eq_true_eq] at h2; omega
    obtain ⟨a, ha⟩ : ∃ a, l[i]? = some a := ⟨_, List.getElem?_eq_getElem hlt⟩
    have hae : (l.map stpT)[((i : Nat) : Int).toNat]? = some (stpT a) := by simp [ha]
    obtain ⟨a1, a2⟩ := hin a (List.mem_of_getElem? ha)
    refine zI (x := stpT a) tab_ok rfl (by omega) (hae) rfl ?_
    repeat' (first|refine zS ?_|refine zR ?_|refine zE tab_ok rfl rfl ?_|refine zN ?_|(refine zG rfl rfl (fun _ => ?_) fun _ => ?_)<;>refine zE tab_ok rfl rfl ?_|(refine zC rfl (fun _ => ?_) fun _ => ?_)<;>try (rename_i h; cases h; done)|refine zB ?_|refine zK ?_|refine zZ ⟨_, rfl, ?_⟩)
    refine Tr.loopS (fun k : Nat => [(.s 3, .ptr (.l 3) 0), (.l 3, .blk 24 [.tr (.ls (c.map svcT))]), (.s 6, .ptr (.l 6) 0), (.l 6, .blk 35 [.own 3 [], .own 3 [], .own 56 [], .own 66 []]), (.s 9, .ptr (.l 9) 0), (.l 9, .blk 35 [.tr (.ls (f.map intT)), .tr (.ls (t.map intT)), .tr (.ls (l.map stpT)), .own 66 ((befUp c f t l i ++ befRow c f t l i k).map edT)]), (.s 34, .tr (.ls (l.map stpT))), (.s 35, int (l.map stpT).length), (.s 36, int i),
        (.s 10, int i), (.s 11, .ptr (.l 11) 0), (.l 11, .blk 56 [int a.s, int a.k]), (.s 42, .tr (.ls (l.map stpT))), (.s 43, int (l.map stpT).length), (.s 44, int k)]) (fun k => l.length - k) (fun k => k ≤ l.length)
      0 (by omega) (Sub.app (l := [_, _, _, _, _, _, _, _, _, _, _, _, _, _, _]) (H := []) ⟨rfl, rfl, rfl, rfl, rfl, by rw [show befRow c f t l i 0 = [] from rfl, List.append_nil]; rfl, rfl, rfl, rfl, rfl, rfl, rfl, rfl, rfl, rfl, trivial⟩ (fun κ v h => nomatch h)) ?_
    rintro k hk
    have hrl := befRow_len c f t l i k
    repeat' (first|refine zS ?_|refine zR ?_|refine zE tab_ok rfl rfl ?_|refine zN ?_|(refine zG rfl rfl (fun _ => ?_) fun _ => ?_)<;>refine zE tab_ok rfl rfl ?_|(refine zC rfl (fun _ => ?_) fun _ => ?_)<;>try (rename_i h; cases h; done)|refine zB ?_|refine zK ?_|refine zZ ⟨_, rfl, ?_⟩)
    · rename_i h3
      have h3 : decide ((k : Int) < ((l.map stpT).length : Int)) = true := h3
      have hlt2 : k < l.length := by simp only [List.length_map, decide_eq_true_eq] at h3; omega
      obtain ⟨b, hb⟩ : ∃ b, l[k]? = some b := ⟨_, List.getElem?_eq_getElem hlt2⟩
      have hbe : (l.map stpT)[((k : Nat) : Int).toNat]? = some (stpT b) := by simp [hb]
      obtain ⟨b1, b2⟩ := hin b (List.mem_of_getElem? hb)
      have hAh := stepAhead_ok hok f t l (befUp c f t l i ++ befRow c f t l i k) a2 b2 a1 (by omega)
      have hsucc := befRow_succ (c := c) (f := f) (t := t) ha hb
      refine zI (x := stpT b) tab_ok rfl (by omega) (hbe) rfl ?_
      repeat' (first|refine zS ?_|refine zR ?_|refine zE tab_ok rfl rfl ?_|refine zN ?_|(refine zG rfl rfl (fun _ => ?_) fun _ => ?_)<;>refine zE tab_ok rfl rfl ?_|(refine zC rfl (fun _ => ?_) fun _ => ?_)<;>try (rename_i h; cases h; done)|refine zB ?_|refine zK ?_|refine zZ ⟨_, rfl, ?_⟩)
      cases hx : aheadS c f t a b
      · rw [hx] at hAh hsucc
        refine Sq.callv rfl (hAh) ?_
        repeat' (first|refine zS ?_|refine zR ?_|refine zE tab_ok rfl rfl ?_|refine zN ?_|(refine zG rfl rfl (fun _ => ?_) fun _ => ?_)<;>refine zE tab_ok rfl rfl ?_|(refine zC rfl (fun _ => ?_) fun _ => ?_)<;>try (rename_i h; cases h; done)|refine zB ?_|refine zK ?_|refine zZ ⟨_, rfl, ?_⟩)
        exact ⟨k + 1, by omega, by omega, Sub.app (l := [_, _, _, _, _, _, _, _, _, _, _, _, _, _, _]) (H := []) ⟨rfl, rfl, rfl, rfl, rfl, by rw [hsucc]; simp; rfl, rfl, rfl, rfl, rfl, rfl, rfl, rfl, rfl, congrArg some (wrapz (by omega) (by omega) (by omega)), trivial⟩ (fun κ v h => nomatch h)⟩
      · rw [hx] at hAh hsucc
        refine Sq.callv rfl (hAh) ?_
        repeat' (first|refine zS ?_|refine zR ?_|refine zE tab_ok rfl rfl ?_|refine zN ?_|(refine zG rfl rfl (fun _ => ?_) fun _ => ?_)<;>refine zE tab_ok rfl rfl ?_|(refine zC rfl (fun _ => ?_) fun _ => ?_)<;>try (rename_i h; cases h; done)|refine zB ?_|refine zK ?_|refine zZ ⟨_, rfl, ?_⟩)
        refine Sq.append tab_ok rfl (fun y hy => by simp only [List.mem_singleton] at hy; subst hy; rfl) (by simp; omega) ?_
        repeat' (first|refine zS ?_|refine zR ?_|refine zE tab_ok rfl rfl ?_|refine zN ?_|(refine zG rfl rfl (fun _ => ?_) fun _ => ?_)<;>refine zE tab_ok rfl rfl ?_|(refine zC rfl (fun _ => ?_) fun _ => ?_)<;>try (rename_i h; cases h; done)|refine zB ?_|refine zK ?_|refine zZ ⟨_, rfl, ?_⟩)
        exact ⟨k + 1, by omega, by omega, Sub.app (l := [_, _, _, _, _, _, _, _, _, _, _, _, _, _, _]) (H := []) ⟨rfl, rfl, rfl, rfl, rfl, by rw [hsucc, ← List.append_assoc, List.map_append (l₁ := befUp c f t l i ++ befRow c f t l i k)]; rfl, rfl, rfl, rfl, rfl, rfl, rfl, rfl, rfl, congrArg some (wrapz (by omega) (by omega) (by omega)), trivial⟩ (fun κ v h => nomatch h)⟩
    · rename_i h3
      have h3 : decide ((k : Int) < ((l.map stpT).length : Int)) = false := h3
      have : k = l.length := by simp only [List.length_map, decide_eq_false_iff_not] at h3; omega
      subst this
      refine Tr.exit ?_
      repeat' (first|refine zS ?_|refine zR ?_|refine zE tab_ok rfl rfl ?_|refine zN ?_|(refine zG rfl rfl (fun _ => ?_) fun _ => ?_)<;>refine zE tab_ok rfl rfl ?_|(refine zC rfl (fun _ => ?_) fun _ => ?_)<;>try (rename_i h; cases h; done)|refine zB ?_|refine zK ?_|refine zZ ⟨_, rfl, ?_⟩)
      exact ⟨i + 1, by omega, by omega, Sub.app (l := [_, _, _, _, _, _, _, _, _]) (H := []) ⟨rfl, rfl, rfl, rfl, rfl, by rw [befUp_succ]; rfl, rfl, rfl, congrArg some (wrapz (by omega) (by omega) (by omega)), trivial⟩ (fun κ v h => nomatch h)⟩
  · rename_i h2
    have h2 : decide ((i : Int) < ((l.map stpT).length : Int)) = false := h2
    have : i = l.length := by simp only [List.length_map, decide_eq_false_iff_not] at h2; omega
    subst this
    refine Tr.exit ?_
    repeat' (first|refine zS ?_|refine zR ?_|refine zE tab_ok rfl rfl ?_|refine zN ?_|(refine zG rfl rfl (fun _ => ?_) fun _ => ?_)<;>refine zE tab_ok rfl rfl ?_|(refine zC rfl (fun _ => ?_) fun _ => ?_)<;>try (rename_i h; cases h; done)|refine zB ?_|refine zK ?_|refine zZ ⟨_, rfl, ?_⟩)
    refine Sq.callv rfl (hGr) ?_
    refine zL rfl hO ?_
    rintro _ ⟨o, rfl⟩
    cases cyc
    · repeat' (first|refine zS ?_|refine zR ?_|refine zE tab_ok rfl rfl ?_|refine zN ?_|(refine zG rfl rfl (fun _ => ?_) fun _ => ?_)<;>refine zE tab_ok rfl rfl ?_|(refine zC rfl (fun _ => ?_) fun _ => ?_)<;>try (rename_i h; cases h; done)|refine zB ?_|refine zK ?_|refine zZ ⟨_, rfl, ?_⟩)
      rfl
    · repeat' (first|refine zS ?_|refine zR ?_|refine zE tab_ok rfl rfl ?_|refine zN ?_|(refine zG rfl rfl (fun _ => ?_) fun _ => ?_)<;>refine zE tab_ok rfl rfl ?_|(refine zC rfl (fun _ => ?_) fun _ => ?_)<;>try (rename_i h; cases h; done)|refine zB ?_|refine zK ?_|refine zZ ⟨_, rfl, ?_⟩)
      rfl
end Go.Lg.Tryz

set_option linter.unusedVariables false
set_option linter.unusedSimpArgs false
namespace Go.Lg.Sem
open Go
inductive Via (es : List (Nat × Nat)) (K : Nat) : Nat → Nat → Prop
  | one {a b : Nat} : (a, b) ∈ es → Via es K a b
  | snoc {a m b : Nat} : Via es K a m → m < K → (m, b) ∈ es → Via es K a b
theorem Via.mono {es : List (Nat × Nat)} {K L a b : Nat} (h : Via es K a b) (hl : K ≤ L) : Via es L a b := by
  induction h with
  | one e => exact .one e
  | snoc _ hm e ih => exact .snoc ih (by omega) e
theorem Via.cat {es : List (Nat × Nat)} {K a m b : Nat} (h : Via es K a m) (hm : m < K) (k : Via es K m b) : Via es K a b := by
  induction k with
  | one e => exact .snoc h hm e
  | snoc _ hn e ih => exact .snoc ih hn e
theorem Via.succ {es : List (Nat × Nat)} {K a b : Nat} : Via es (K + 1) a b ↔ Via es K a b ∨ (Via es K a K ∧ Via es K K b) := by
  constructor
  · intro h
    induction h with
    | one e => exact .inl (.one e)
    | @snoc m b _ hm e ih =>
      rcases ih with h | ⟨h1, h2⟩
      · by_cases hk : m < K
        · exact .inl (.snoc h hk e)
        · obtain rfl : m = K := by omega
          exact .inr ⟨h, .one e⟩
      · by_cases hk : m < K
        · exact .inr ⟨h1, .snoc h2 hk e⟩
        · obtain rfl : m = K := by omega
          exact .inr ⟨h1, .one e⟩
  · rintro (h | ⟨h1, h2⟩)
    · exact h.mono (by omega)
    · exact (h1.mono (by omega)).cat (by omega) (h2.mono (by omega))
theorem Via.edge {es : List (Nat × Nat)} {n a b : Nat} (hp : ∀ p, p ∈ es → p.1 < n ∧ p.2 < n) : Via es n a b ↔ EdgeWay es a b := by
  constructor
  · intro h
    induction h with
    | one e => exact .one e
    | snoc _ _ e ih => exact .snoc ih e
  · intro h
    induction h with
    | one e => exact .one e
    | snoc _ e ih => exact .snoc ih (hp _ e).1 e
theorem Via.self {es : List (Nat × Nat)} {K b : Nat} : Via es (K + 1) K b ↔ Via es K K b := by
  rw [Via.succ]
  exact ⟨fun h => h.elim id (·.2), .inl⟩
theorem bit1 (x : BitVec 64) (k : Nat) : x >>> k &&& 1#64 = if x.getLsbD k then 1#64 else 0#64 := by
  apply BitVec.eq_of_getLsbD_eq
  intro i hi
  rw [BitVec.getLsbD_and, BitVec.getLsbD_ushiftRight]
  by_cases e : i = 0
  · subst e; cases hx : x.getLsbD k <;> simp [hx]
  · cases hx : x.getLsbD k <;> simp [BitVec.getLsbD_one, e]
structure ReI (n : Nat) (es : List (Nat × Nat)) (K I : Nat) (R : List (BitVec 64)) : Prop where
  len : R.length = n
  row : ∀ i x, R[i]? = some x → ∀ j, j < n → (x.getLsbD j = true ↔ Via es (if i < I then K + 1 else K) i j)
theorem ReI.zero {n : Nat} {es : List (Nat × Nat)} (hn : n ≤ 64) (hp : ∀ p, p ∈ es → p.1 < n ∧ p.2 < n) : ReI n es 0 0 (aheadV n (es.map Prod.swap)) := by
  refine ⟨ahead_len _ _, fun i x hx j hj => ?_⟩
  have hp' : ∀ p, p ∈ es.map Prod.swap → p.1 < n ∧ p.2 < n := fun p h => by
    obtain ⟨q, hq, rfl⟩ := List.mem_map.1 h
    exact ⟨(hp q hq).2, (hp q hq).1⟩
  rw [ahead_bit n hn _ hp' i x hx j, List.any_eq_true, if_neg (by omega)]
  constructor
  · rintro ⟨p, hpm, hpe⟩
    obtain ⟨⟨u, v⟩, hq, rfl⟩ := List.mem_map.1 hpm
    simp only [Prod.swap, Bool.and_eq_true, beq_iff_eq] at hpe
    obtain ⟨rfl, rfl⟩ := hpe
    exact .one hq
  · intro h
    cases h with
    | one e => exact ⟨(j, i), List.mem_map.2 ⟨(i, j), e, rfl⟩, by simp⟩
    | snoc _ hm _ => omega
theorem ReI.rowK {n : Nat} {es : List (Nat × Nat)} {K I : Nat} {R : List (BitVec 64)} (h : ReI n es K I R) {y : BitVec 64} (hy : R[K]? = some y) : ∀ j, j < n → (y.getLsbD j = true ↔ Via es K K j) := by
  intro j hj
  rw [h.row K y hy j hj]
  split
  · exact Via.self
  · exact Iff.rfl
theorem ReI.skip {n : Nat} {es : List (Nat × Nat)} {K I : Nat} {R : List (BitVec 64)} (h : ReI n es K I R) (hK : K < n) {x : BitVec 64} (hx : R[I]? = some x) (hb : x.getLsbD K = false) : ReI n es K (I + 1) R := by
  refine ⟨h.len, fun i z hz j hj => ?_⟩
  rw [h.row i z hz j hj]
  by_cases e : i = I
  · subst e
    rw [if_neg (by omega), if_pos (by omega), Via.succ]
    have h1 := h.row i x hx K hK
    rw [if_neg (by omega), hb] at h1
    exact ⟨.inl, fun k => k.elim id fun ⟨k, _⟩ => absurd (h1.2 k) (by simp)⟩
  · by_cases hl : i < I
    · rw [if_pos hl, if_pos (by omega)]
    · rw [if_neg hl, if_neg (by omega)]
theorem ReI.put {n : Nat} {es : List (Nat × Nat)} {K I : Nat} {R : List (BitVec 64)} (h : ReI n es K I R) (hK : K < n) {x y : BitVec 64} (hx : R[I]? = some x) (hy : R[K]? = some y) (hb : x.getLsbD K = true) : ReI n es K (I + 1) (R.set I (x ||| y)) := by
  have hI := (List.getElem?_eq_some_iff.1 hx).1
  refine ⟨by rw [List.length_set]; exact h.len, fun i z hz j hj => ?_⟩
  by_cases e : I = i
  · subst e
    rw [List.getElem?_set_self hI] at hz
    obtain rfl := Option.some.inj hz
    rw [if_pos (by omega), Via.succ, BitVec.getLsbD_or, Bool.or_eq_true, h.rowK hy j hj]
    have h1 := h.row I x hx K hK
    have h2 := h.row I x hx j hj
    rw [if_neg (by omega)] at h1 h2
    rw [h2]
    exact ⟨fun k => k.elim .inl fun k => .inr ⟨h1.1 hb, k⟩, fun k => k.elim .inl fun k => .inr k.2⟩
  · rw [List.getElem?_set_ne e] at hz
    rw [h.row i z hz j hj]
    by_cases hl : i < I
    · rw [if_pos hl, if_pos (by omega)]
    · rw [if_neg hl, if_neg (by omega)]
theorem ReI.next {n : Nat} {es : List (Nat × Nat)} {K : Nat} {R : List (BitVec 64)} (h : ReI n es K n R) : ReI n es (K + 1) 0 R := by
  refine ⟨h.len, fun i z hz j hj => ?_⟩
  have hi := (List.getElem?_eq_some_iff.1 hz).1
  rw [h.row i z hz j hj, if_pos (by rw [h.len] at hi; exact hi), if_neg (by omega)]
theorem ReI.done {n : Nat} {es : List (Nat × Nat)} {R : List (BitVec 64)} (h : ReI n es n 0 R) (hp : ∀ p, p ∈ es → p.1 < n ∧ p.2 < n) {i : Nat} {x : BitVec 64} (hx : R[i]? = some x) {j : Nat} (hj : j < n) : x.getLsbD j = true ↔ EdgeWay es i j := by
  rw [h.row i x hx j hj, if_neg (by omega)]; exact Via.edge hp
end Go.Lg.Sem

set_option linter.unusedVariables false
set_option linter.unusedSimpArgs false
namespace Go.Lg.Tryz
open Go Go.Proofs Go.RowKit Go.Lib Go.Lg.Sem
theorem bit1_1 {x : BitVec 64} {K : Nat} : (((x >>> K &&& 1#64).toNat : Int) == 1) = x.getLsbD K := by
  rw [bit1]; cases x.getLsbD K <;> rfl
theorem bit1_0 {x : BitVec 64} {K : Nat} : (((x >>> K &&& 1#64).toNat : Int) == 0) = !x.getLsbD K := by
  rw [bit1]; cases x.getLsbD K <;> rfl
def ReachV (n : Nat) (es : List (Nat × Nat)) (R : List (BitVec 64)) : Prop := R.length = n ∧ ∀ i x, R[i]? = some x → ∀ j, j < n → (x.getLsbD j = true ↔ EdgeWay es i j)
set_option maxRecDepth 8192 in
theorem Reach_ok (n : Nat) (es : List (Nat × Nat)) (hn : n ≤ 64) (hl : es.length ≤ 4096) (hp : ∀ p, p ∈ es → p.1 < n ∧ p.2 < n) :
    Fn Tryz.prog Gw 56 [.tr (grT n es)] [] (fun x => ∃ R : List (BitVec 64), x = .tup [.tr (.ls (R.map u64T)), int 0] ∧ ReachV n es R) := by
  have hK := gCheck_ok n es hn hl hp
  refine Fn.of tab_ok Tryz.func56 rfl (by decide) (by simp [Tryz.f56]) rfl (fun κ v h => by cases h) Gw.below ?_
  repeat' (first|refine zS ?_|refine zR ?_|refine zE tab_ok rfl rfl ?_|refine zN ?_|(refine zG rfl rfl (fun _ => ?_) fun _ => ?_)<;>refine zE tab_ok rfl rfl ?_|(refine zC rfl (fun _ => ?_) fun _ => ?_)<;>try (rename_i h; cases h; done)|refine zB ?_|refine zK ?_|refine zZ ⟨_, rfl, ?_⟩)
  refine Sq.callv rfl (hK) ?_
  repeat' (first|refine zS ?_|refine zR ?_|refine zE tab_ok rfl rfl ?_|refine zN ?_|(refine zG rfl rfl (fun _ => ?_) fun _ => ?_)<;>refine zE tab_ok rfl rfl ?_|(refine zC rfl (fun _ => ?_) fun _ => ?_)<;>try (rename_i h; cases h; done)|refine zB ?_|refine zK ?_|refine zZ ⟨_, rfl, ?_⟩)
  refine Sq.make tab_ok rfl rfl (by omega) (by omega) (by omega) rfl ?_
  refine zE tab_ok rfl rfl ?_
  refine zN ?_
  repeat' (first|refine zS ?_|refine zR ?_|refine zE tab_ok rfl rfl ?_|refine zN ?_|(refine zG rfl rfl (fun _ => ?_) fun _ => ?_)<;>refine zE tab_ok rfl rfl ?_|(refine zC rfl (fun _ => ?_) fun _ => ?_)<;>try (rename_i h; cases h; done)|refine zB ?_|refine zK ?_|refine zZ ⟨_, rfl, ?_⟩)
  refine Tr.loopS (fun k : Nat => [(.s 1, .ptr (.l 1) 0), (.l 1, .blk 93 [int n, .tr (.ls (es.map edT))]), (.s 5, .sl (.l 17) n n), (.l 17, .blk 48 (((aheadV n ((es.map Prod.swap).take k)).map u64T).map .tr)), (.s 19, .tr (.ls (es.map edT))), (.s 20, int (es.map edT).length), (.s 21, int k)]) (fun k => es.length - k)
      (fun k => k ≤ es.length) 0 (by omega) (Sub.app (l := [_, _, _, _, _, _, _]) (H := []) ⟨rfl, rfl, rfl, by rw [List.take_zero]; show some (AV.blk _ (List.replicate n _)) = some (AV.blk _ (((List.replicate n (0 : BitVec 64)).map u64T).map .tr)); rw [List.map_replicate, List.map_replicate]; rfl, rfl, rfl, rfl, trivial⟩ (fun κ v h => nomatch h)) ?_
  rintro k hk
  repeat' (first|refine zS ?_|refine zR ?_|refine zE tab_ok rfl rfl ?_|refine zN ?_|(refine zG rfl rfl (fun _ => ?_) fun _ => ?_)<;>refine zE tab_ok rfl rfl ?_|(refine zC rfl (fun _ => ?_) fun _ => ?_)<;>try (rename_i h; cases h; done)|refine zB ?_|refine zK ?_|refine zZ ⟨_, rfl, ?_⟩)
  · rename_i h2
    have hlt : k < es.length := by simp only [List.length_map, decide_eq_true_eq] at h2; omega
    obtain ⟨p, hpk⟩ : ∃ p, es[k]? = some p := ⟨_, List.getElem?_eq_getElem hlt⟩
    have hpe : (es.map edT)[((k : Nat) : Int).toNat]? = some (edT p) := by simp [hpk]
    have hps : (es.map Prod.swap)[k]? = some p.swap := by simp [hpk]
    obtain ⟨h1, h3⟩ := hp p (List.mem_of_getElem? hpk)
    have hst := ahead_succ (n := n) hps
    have hlen := ahead_len n ((es.map Prod.swap).take k)
    generalize aheadV n ((es.map Prod.swap).take k) = A at *
    obtain ⟨x, hx⟩ : ∃ x, A[p.1]? = some x := ⟨_, List.getElem?_eq_getElem (by omega)⟩
    have hxe : ((A.map u64T).map AV.tr)[((p.1 : Nat) : Int).toNat * 1]? = some (u64 x) := by simp [hx]
    refine zI (x := edT p) tab_ok rfl (by omega) (hpe) rfl ?_
    refine zE tab_ok rfl rfl ?_
    refine zE tab_ok rfl (by simp [-List.map_map, freshB, pinB, refsM, AV.refs, refsL_tr, refsL, Loc.eqb]; decide) ?_
    refine zE tab_ok rfl rfl ?_
    refine zN ?_
    refine Tr.drawn ( zD tab_ok rfl rfl <| zO rfl (fun q K hK => Sq.indexA (j := 0) (len := 2) tab_ok rfl (by omega) (by omega) (zN hK)) <| zD tab_ok rfl rfl <| zO rfl (fun q K hK => Sq.indexS (j := ((p.1 : Nat) : Int)) (len := n) tab_ok rfl (by omega) (by omega) (zN hK)) <| zO rfl (fun q K hK => Sq.loadS (v := u64 x) tab_ok rfl hxe (zN hK)) <| zO rfl (fun q K hK => Sq.indexA (j := 1) (len := 2) tab_ok rfl (by omega) (by omega) (zN hK)) <| zD tab_ok rfl rfl <| zO rfl (fun q K hK => Sq.shift rfl 1#64 p.2 rfl rfl (by omega) (zN hK)) <| zO rfl (fun q K hK => Sq.bits rfl x (1#64 <<< p.2) (r := x ||| (1#64 <<< p.2)) rfl rfl rfl (zN hK)) <| zO rfl (fun q K hK => Sq.indexS (j := ((p.1 : Nat) : Int)) (len := n) tab_ok rfl (by omega) (by omega) (zN hK)) <| DSq.blk rfl (fun q K hK => Sq.storeS tab_ok rfl (by show ((p.1 : Nat) : Int).toNat * 1 < ((A.map u64T).map AV.tr).length; rw [List.length_map, List.length_map]; omega) (zN hK)) <| DSq.nil _) mix_ok rfl ?_
    repeat' (first|refine zS ?_|refine zR ?_|refine zE tab_ok rfl rfl ?_|refine zN ?_|(refine zG rfl rfl (fun _ => ?_) fun _ => ?_)<;>refine zE tab_ok rfl rfl ?_|(refine zC rfl (fun _ => ?_) fun _ => ?_)<;>try (rename_i h; cases h; done)|refine zB ?_|refine zK ?_|refine zZ ⟨_, rfl, ?_⟩)
    have hset : ((A.map u64T).map AV.tr).set (((p.1 : Nat) : Int).toNat * 1) (u64 (x ||| (1#64 <<< p.2))) = ((stepA A p.swap).map u64T).map AV.tr := by
      unfold stepA
      rw [Int.toNat_natCast, Nat.mul_one, List.map_set, List.map_set]
      congr 2
      show _ = A.getD p.1 0 ||| _
      rw [List.getD_eq_getElem?_getD, hx]; rfl
    exact ⟨k + 1, by omega, by omega, Sub.app (l := [_, _, _, _, _, _, _]) (H := []) ⟨rfl, rfl, rfl, by rw [hst, ← hset]; rfl, rfl, rfl, congrArg some (wrapz (by omega) (by omega) (by omega)), trivial⟩ (fun κ v h => nomatch h)⟩
  · rename_i h2
    have hge : es.length ≤ k := by simp only [List.length_map, decide_eq_false_iff_not] at h2; omega
    rw [List.take_of_length_le (by rw [List.length_map]; exact hge)]
    have hz := ReI.zero hn hp
    generalize aheadV n (es.map Prod.swap) = R0 at *
    refine Tr.exit ?_
    repeat' (first|refine zS ?_|refine zR ?_|refine zE tab_ok rfl rfl ?_|refine zN ?_|(refine zG rfl rfl (fun _ => ?_) fun _ => ?_)<;>refine zE tab_ok rfl rfl ?_|(refine zC rfl (fun _ => ?_) fun _ => ?_)<;>try (rename_i h; cases h; done)|refine zB ?_|refine zK ?_|refine zZ ⟨_, rfl, ?_⟩)
    refine Tr.loopS (ι := Nat × List (BitVec 64)) (fun i => [(.s 1, .ptr (.l 1) 0), (.l 1, .blk 93 [int n, .tr (.ls (es.map edT))]), (.s 5, .sl (.l 17) n n), (.l 17, .blk 48 ((i.2.map u64T).map .tr)), (.s 37, int n), (.s 38, int i.1)]) (fun i => n - i.1)
      (fun i => i.1 ≤ n ∧ ReI n es i.1 0 i.2) (0, R0) ⟨by omega, hz⟩ (Sub.app (l := [_, _, _, _, _, _]) (H := []) ⟨rfl, rfl, rfl, rfl, rfl, rfl, trivial⟩ (fun κ v h => nomatch h)) ?_
    rintro ⟨K, R⟩ ⟨hKn, hR⟩
    have hKn : K ≤ n := hKn
    have hR : ReI n es K 0 R := hR
    repeat' (first|refine zS ?_|refine zR ?_|refine zE tab_ok rfl rfl ?_|refine zN ?_|(refine zG rfl rfl (fun _ => ?_) fun _ => ?_)<;>refine zE tab_ok rfl rfl ?_|(refine zC rfl (fun _ => ?_) fun _ => ?_)<;>try (rename_i h; cases h; done)|refine zB ?_|refine zK ?_|refine zZ ⟨_, rfl, ?_⟩)
    · rename_i h4
      have hK2 : K < n := by have := of_decide_eq_true h4; omega
      refine Sq.lenS tab_ok rfl ?_
      repeat' (first|refine zS ?_|refine zR ?_|refine zE tab_ok rfl rfl ?_|refine zN ?_|(refine zG rfl rfl (fun _ => ?_) fun _ => ?_)<;>refine zE tab_ok rfl rfl ?_|(refine zC rfl (fun _ => ?_) fun _ => ?_)<;>try (rename_i h; cases h; done)|refine zB ?_|refine zK ?_|refine zZ ⟨_, rfl, ?_⟩)
      refine Tr.loopS (ι := Nat × List (BitVec 64)) (fun i => [(.s 1, .ptr (.l 1) 0), (.l 1, .blk 93 [int n, .tr (.ls (es.map edT))]), (.s 5, .sl (.l 17) n n), (.l 17, .blk 48 ((i.2.map u64T).map .tr)), (.s 37, int n), (.s 38, int K), (.s 8, int K), (.s 42, int n), (.s 43, int i.1)]) (fun i => n - i.1)
        (fun i => i.1 ≤ n ∧ ReI n es K i.1 i.2) (0, R) ⟨by omega, hR⟩ (Sub.app (l := [_, _, _, _, _, _, _, _, _]) (H := []) ⟨rfl, rfl, rfl, rfl, rfl, rfl, rfl, rfl, rfl, trivial⟩ (fun κ v h => nomatch h)) ?_
      rintro ⟨I, R⟩ ⟨hIn, hR⟩
      have hIn : I ≤ n := hIn
      have hR : ReI n es K I R := hR
      repeat' (first|refine zS ?_|refine zR ?_|refine zE tab_ok rfl rfl ?_|refine zN ?_|(refine zG rfl rfl (fun _ => ?_) fun _ => ?_)<;>refine zE tab_ok rfl rfl ?_|(refine zC rfl (fun _ => ?_) fun _ => ?_)<;>try (rename_i h; cases h; done)|refine zB ?_|refine zK ?_|refine zZ ⟨_, rfl, ?_⟩)
      · rename_i h5
        have hI2 : I < n := by have := of_decide_eq_true h5; omega
        have hRl := hR.len
        obtain ⟨x, hx⟩ : ∃ x, R[I]? = some x := ⟨_, List.getElem?_eq_getElem (by omega)⟩
        obtain ⟨y, hy⟩ : ∃ y, R[K]? = some y := ⟨_, List.getElem?_eq_getElem (by omega)⟩
        have hxe : ((R.map u64T).map AV.tr)[((I : Nat) : Int).toNat * 1]? = some (u64 x) := by simp [hx]
        have hye : ((R.map u64T).map AV.tr)[((K : Nat) : Int).toNat * 1]? = some (u64 y) := by simp [hy]
        refine Sq.indexS (j := ((I : Nat) : Int)) (len := n) tab_ok rfl (by omega) (by omega) ?_
        refine Sq.loadS (v := u64 x) tab_ok rfl hxe ?_
        refine zE tab_ok rfl rfl ?_
        refine Sq.shift rfl x K rfl rfl (by omega) ?_
        refine Sq.bits rfl (x >>> K) 1#64 (r := x >>> K &&& 1#64) rfl rfl rfl ?_
        refine zE tab_ok rfl rfl ?_
        refine zN ?_
        refine zC rfl (fun h6 => ?_) (fun h6 => ?_)
        · have h6 : (((x >>> K &&& 1#64).toNat : Int) == 1) = true := h6
          rw [bit1_1] at h6
          have hnx := hR.put hK2 hx hy h6
          refine Tr.drawn ( zD tab_ok rfl rfl <| zD tab_ok rfl rfl <| zO rfl (fun q K hK => Sq.indexS (j := ((I : Nat) : Int)) (len := n) tab_ok rfl (by omega) (by omega) (zN hK)) <| zO rfl (fun q K hK => Sq.loadS (v := u64 x) tab_ok rfl hxe (zN hK)) <| zD tab_ok rfl rfl <| zD tab_ok rfl rfl <| zO rfl (fun q K' hK => Sq.indexS (j := ((K : Nat) : Int)) (len := n) tab_ok rfl (by omega) (by omega) (zN hK)) <| zO rfl (fun q K hK => Sq.loadS (v := u64 y) tab_ok rfl hye (zN hK)) <| zO rfl (fun q K hK => Sq.bits rfl x y (r := x ||| y) rfl rfl rfl (zN hK)) <| zO rfl (fun q K hK => Sq.indexS (j := ((I : Nat) : Int)) (len := n) tab_ok rfl (by omega) (by omega) (zN hK)) <| DSq.blk rfl (fun q K hK => Sq.storeS tab_ok rfl (by show ((I : Nat) : Int).toNat * 1 < ((R.map u64T).map AV.tr).length; rw [List.length_map, List.length_map]; omega) (zN hK)) <| DSq.nil _) mix_ok rfl ?_
          repeat' (first|refine zS ?_|refine zR ?_|refine zE tab_ok rfl rfl ?_|refine zN ?_|(refine zG rfl rfl (fun _ => ?_) fun _ => ?_)<;>refine zE tab_ok rfl rfl ?_|(refine zC rfl (fun _ => ?_) fun _ => ?_)<;>try (rename_i h; cases h; done)|refine zB ?_|refine zK ?_|refine zZ ⟨_, rfl, ?_⟩)
          have hset : ((R.map u64T).map AV.tr).set (((I : Nat) : Int).toNat * 1) (u64 (x ||| y)) = ((R.set I (x ||| y)).map u64T).map AV.tr := by
            rw [Int.toNat_natCast, Nat.mul_one, List.map_set, List.map_set]
          exact ⟨(I + 1, R.set I (x ||| y)), ⟨by show I + 1 ≤ n; omega, hnx⟩, by show n - (I + 1) < n - I; omega, Sub.app (l := [_, _, _, _, _, _, _, _, _]) (H := []) ⟨rfl, rfl, rfl, congrArg some (congrArg (AV.blk _) hset), rfl, rfl, rfl, rfl, congrArg some (wrapz (by (try dsimp only); omega) (by (try dsimp only); omega) (by (try dsimp only); omega)), trivial⟩ (fun κ v h => nomatch h)⟩
        · have h6 : (((x >>> K &&& 1#64).toNat : Int) == 1) = false := h6
          rw [bit1_1] at h6
          have hnx := hR.skip hK2 hx h6
          repeat' (first|refine zS ?_|refine zR ?_|refine zE tab_ok rfl rfl ?_|refine zN ?_|(refine zG rfl rfl (fun _ => ?_) fun _ => ?_)<;>refine zE tab_ok rfl rfl ?_|(refine zC rfl (fun _ => ?_) fun _ => ?_)<;>try (rename_i h; cases h; done)|refine zB ?_|refine zK ?_|refine zZ ⟨_, rfl, ?_⟩)
          exact ⟨(I + 1, R), ⟨by show I + 1 ≤ n; omega, hnx⟩, by show n - (I + 1) < n - I; omega, Sub.app (l := [_, _, _, _, _, _, _, _, _]) (H := []) ⟨rfl, rfl, rfl, rfl, rfl, rfl, rfl, rfl, congrArg some (wrapz (by (try dsimp only); omega) (by (try dsimp only); omega) (by (try dsimp only); omega)), trivial⟩ (fun κ v h => nomatch h)⟩
      · rename_i h5
        have : I = n := by have := of_decide_eq_false h5; omega
        subst this
        refine Tr.exit ?_
        repeat' (first|refine zS ?_|refine zR ?_|refine zE tab_ok rfl rfl ?_|refine zN ?_|(refine zG rfl rfl (fun _ => ?_) fun _ => ?_)<;>refine zE tab_ok rfl rfl ?_|(refine zC rfl (fun _ => ?_) fun _ => ?_)<;>try (rename_i h; cases h; done)|refine zB ?_|refine zK ?_|refine zZ ⟨_, rfl, ?_⟩)
        exact ⟨(K + 1, R), ⟨by show K + 1 ≤ _; omega, hR.next⟩, by show _ - (K + 1) < _ - K; omega, Sub.app (l := [_, _, _, _, _, _]) (H := []) ⟨rfl, rfl, rfl, rfl, rfl, congrArg some (wrapz (by (try dsimp only); omega) (by (try dsimp only); omega) (by (try dsimp only); omega)), trivial⟩ (fun κ v h => nomatch h)⟩
    · rename_i h4
      have : K = n := by have := of_decide_eq_false h4; omega
      subst this
      refine Tr.exit ?_
      have hRl := hR.len
      refine Tr.turn (fun Γ a w h => RelX.freeze1 (xs := R.map u64T) (cap := K) h (s := 5) (κ := .l 17) ?_ rfl rfl ?_) ?_
      · show some (AV.sl _ _ _) = some (AV.sl _ _ _)
        rw [List.length_map, hRl]
      · intro y hy
        obtain ⟨v, _, rfl⟩ := List.mem_map.1 hy
        rfl
      repeat' (first|refine zS ?_|refine zR ?_|refine zE tab_ok rfl rfl ?_|refine zN ?_|(refine zG rfl rfl (fun _ => ?_) fun _ => ?_)<;>refine zE tab_ok rfl rfl ?_|(refine zC rfl (fun _ => ?_) fun _ => ?_)<;>try (rename_i h; cases h; done)|refine zB ?_|refine zK ?_|refine zZ ⟨_, rfl, ?_⟩)
      exact ⟨R, rfl, hRl, fun i x hx j hj => hR.done hp hx hj⟩
theorem eqA_stp (d : Nat) (w : World) (x0 y0 x1 y1 : Int) : (Op.equalIn (d + 2) 56 (.agg #[.int .i64 x0, .int .i64 x1]) (.agg #[.int .i64 y0, .int .i64 y1])).run Tryz.prog w = .ok (x0 == y0 && x1 == y1) w := by
  refine eqA_of Tryz.underlying56 (by kernel_rfl) ?_
  refine eqf_cons (by rfl) (by go_simp; rfl) (by go_simp; rfl) (by go_simp) ?_
  exact eqf_last (by rfl) (by go_simp; rfl) (by go_simp; rfl) (by go_simp)
theorem stp_eq (a b : Stp) : (((a.s : Int) == (b.s : Int)) && ((a.k : Int) == (b.k : Int))) = decide (a = b) := by
  obtain ⟨s, k⟩ := a
  obtain ⟨s', k'⟩ := b
  rw [Bool.eq_iff_iff]
  simp only [Bool.and_eq_true, beq_iff_eq, decide_eq_true_eq, Stp.mk.injEq]
  omega
theorem eqSteps_ok (a b : List Stp) (hl : a.length ≤ 1000000) : Fn Tryz.prog Gw 55 [.tr (.ls (a.map stpT)), .tr (.ls (b.map stpT))] [] (· = bool (decide (a = b))) := by
  refine Fn.of tab_ok Tryz.func55 rfl (by decide) (by simp [Tryz.f55]) rfl (fun κ v h => by cases h) Gw.below ?_
  repeat' (first|refine zS ?_|refine zR ?_|refine zE tab_ok rfl rfl ?_|refine zN ?_|(refine zG rfl rfl (fun _ => ?_) fun _ => ?_)<;>refine zE tab_ok rfl rfl ?_|(refine zC rfl (fun _ => ?_) fun _ => ?_)<;>try (rename_i h; cases h; done)|refine zB ?_|refine zK ?_|refine zZ ⟨_, rfl, ?_⟩)
  · rename_i h1
    have h1 : (((a.map stpT).length : Int) != ((b.map stpT).length : Int)) = true := h1
    have hne : a ≠ b := fun e => by subst e; simp at h1
    show bool false = _
    rw [decide_eq_false hne]
  rename_i h1
  have h1 : (((a.map stpT).length : Int) != ((b.map stpT).length : Int)) = false := h1
  have hlen : a.length = b.length := by simp only [List.length_map, bne_eq_false_iff_eq] at h1; omega
  refine Tr.loopS (fun i : Nat => [(.s 0, .tr (.ls (a.map stpT))), (.s 1, .tr (.ls (b.map stpT))), (.s 12, int (a.map stpT).length), (.s 13, int i)]) (fun i => a.length - i) (fun i => i ≤ a.length ∧ a.take i = b.take i)
    0 ⟨by omega, rfl⟩ (Sub.app (l := [_, _, _, _]) (H := []) ⟨rfl, rfl, rfl, rfl, trivial⟩ (fun κ v h => nomatch h)) ?_
  rintro i ⟨hi, htk⟩
  repeat' (first|refine zS ?_|refine zR ?_|refine zE tab_ok rfl rfl ?_|refine zN ?_|(refine zG rfl rfl (fun _ => ?_) fun _ => ?_)<;>refine zE tab_ok rfl rfl ?_|(refine zC rfl (fun _ => ?_) fun _ => ?_)<;>try (rename_i h; cases h; done)|refine zB ?_|refine zK ?_|refine zZ ⟨_, rfl, ?_⟩)
  · rename_i h2
    have hlt : i < a.length := by simp only [List.length_map, decide_eq_true_eq] at h2; omega
    obtain ⟨x, hx⟩ : ∃ x, a[i]? = some x := ⟨_, List.getElem?_eq_getElem hlt⟩
    obtain ⟨y, hy⟩ : ∃ x, b[i]? = some x := ⟨_, List.getElem?_eq_getElem (by omega)⟩
    have hxe : (a.map stpT)[((i : Nat) : Int).toNat]? = some (stpT x) := by simp [hx]
    have hye : (b.map stpT)[((i : Nat) : Int).toNat]? = some (stpT y) := by simp [hy]
    refine Tr.drawn ( zD tab_ok rfl rfl <| zD tab_ok rfl rfl <| zO rfl (fun q K hK => zI (x := stpT x) tab_ok rfl (by omega) (hxe) rfl (zN hK)) <| zD tab_ok rfl rfl <| zD tab_ok rfl rfl <| zD tab_ok rfl rfl <| zO rfl (fun q K hK => zI (x := stpT y) tab_ok rfl (by omega) (hye) rfl (zN hK)) <| zD tab_ok rfl rfl <| DSq.eqag rfl (fun _ => rfl) (by kernel_rfl) (fun w => eqA_stp 9998 w _ _ _ _) <| DSq.nil _) mix_ok rfl ?_
    rw [stp_eq]
    by_cases he : x = y
    · rw [decide_eq_true he]
      repeat' (first|refine zS ?_|refine zR ?_|refine zE tab_ok rfl rfl ?_|refine zN ?_|(refine zG rfl rfl (fun _ => ?_) fun _ => ?_)<;>refine zE tab_ok rfl rfl ?_|(refine zC rfl (fun _ => ?_) fun _ => ?_)<;>try (rename_i h; cases h; done)|refine zB ?_|refine zK ?_|refine zZ ⟨_, rfl, ?_⟩)
      refine ⟨i + 1, ⟨by omega, ?_⟩, by omega, Sub.app (l := [_, _, _, _]) (H := []) ⟨rfl, rfl, rfl, congrArg some (wrapz (by omega) (by omega) (by omega)), trivial⟩ (fun κ v h => nomatch h)⟩
      rw [List.take_add_one, List.take_add_one, htk, hx, hy, he]
    · rw [decide_eq_false he]
      repeat' (first|refine zS ?_|refine zR ?_|refine zE tab_ok rfl rfl ?_|refine zN ?_|(refine zG rfl rfl (fun _ => ?_) fun _ => ?_)<;>refine zE tab_ok rfl rfl ?_|(refine zC rfl (fun _ => ?_) fun _ => ?_)<;>try (rename_i h; cases h; done)|refine zB ?_|refine zK ?_|refine zZ ⟨_, rfl, ?_⟩)
      show bool false = _
      rw [decide_eq_false (fun e => he (by rw [e, hy] at hx; exact (Option.some.inj hx).symm))]
  · rename_i h2
    have : i = a.length := by simp only [List.length_map, decide_eq_false_iff_not] at h2; omega
    subst this
    refine Tr.exit ?_
    repeat' (first|refine zS ?_|refine zR ?_|refine zE tab_ok rfl rfl ?_|refine zN ?_|(refine zG rfl rfl (fun _ => ?_) fun _ => ?_)<;>refine zE tab_ok rfl rfl ?_|(refine zC rfl (fun _ => ?_) fun _ => ?_)<;>try (rename_i h; cases h; done)|refine zB ?_|refine zK ?_|refine zZ ⟨_, rfl, ?_⟩)
    show bool true = _
    rw [List.take_of_length_le (Nat.le_refl _), List.take_of_length_le (by omega)] at htk
    rw [decide_eq_true htk]
end Go.Lg.Tryz

set_option linter.unusedVariables false
set_option linter.unusedSimpArgs false
namespace Go.Lg.Tryz
open Go Go.Proofs Go.RowKit Go.Lib Go.Lg.Sem
def RchP (c : Ctl) (f t : List Int) (l : List Stp) (e : List (Nat × Nat)) : Prop := ∀ i k a b, l[i]? = some a → l[k]? = some b → aheadS c f t a b = true → EdgeWay e i k
def chkZ (c : Ctl) (f t : List Int) (l : List Stp) (cyc rb : Bool) : Int := if endsV c f t = 0 then (if l = stepsV c f t then (if cyc then 45 else if rb then 0 else 45) else 45) else endsV c f t
set_option maxRecDepth 8192 in
theorem planCheck_ok {c : Ctl} (hok : Ctl.ok c) (hc : c.length ≤ 12) (hlv : LvOk c) (f t : List Int) (l : List Stp) (e : List (Nat × Nat)) (hl : l.length ≤ 1000) (he : e.length ≤ 1000) (hp : ∀ p, p ∈ e → p.1 < l.length ∧ p.2 < l.length)
    (cyc : Bool) (hcyc : cyc = true ↔ CycP l.length e) (rb : Bool) (hrb : rb = true ↔ RchP c f t l e) (hfl : f.length ≤ 1000) (htl : t.length ≤ 1000) :
    Fn Tryz.prog Gw 21 [.tr (ctlT c), .tr (plnT ⟨f, t, l, e⟩)] [] (· = int (chkZ c f t l cyc rb)) := by
  have hE := ends_ok hok (by omega) hlv f t
  unfold chkZ
  by_cases hez : endsV c f t ≠ 0
  · generalize endsV c f t = z at *
    rw [if_neg hez]
    refine Fn.of tab_ok Tryz.func21 rfl (by decide) (by simp [Tryz.f21]) rfl (fun κ v h => by cases h) Gw.below ?_
    repeat' (first|refine zS ?_|refine zR ?_|refine zE tab_ok rfl rfl ?_|refine zN ?_|(refine zG rfl rfl (fun _ => ?_) fun _ => ?_)<;>refine zE tab_ok rfl rfl ?_|(refine zC rfl (fun _ => ?_) fun _ => ?_)<;>try (rename_i h; cases h; done)|refine zB ?_|refine zK ?_|refine zZ ⟨_, rfl, ?_⟩)
    refine Sq.callv rfl (hE) ?_
    repeat' (first|refine zS ?_|refine zR ?_|refine zE tab_ok rfl rfl ?_|refine zN ?_|(refine zG rfl rfl (fun _ => ?_) fun _ => ?_)<;>refine zE tab_ok rfl rfl ?_|(refine zC rfl (fun _ => ?_) fun _ => ?_)<;>try (rename_i h; cases h; done)|refine zB ?_|refine zK ?_|refine zZ ⟨_, rfl, ?_⟩)
    · rfl
    all_goals
      rename_i h
      have h : (z != 0) = false := h
      simp at h; exact absurd h hez
  have hez : endsV c f t = 0 := Classical.not_not.1 hez
  rw [hez] at hE
  rw [if_pos hez]
  have hends := ends0 hez
  have hf12 : f.length ≤ 12 := by have := (rightV_at hends.rf).1; omega
  have htf : t.length = f.length := (rightV_at hends.rt).1.trans (rightV_at hends.rf).1.symm
  have hS := steps_ok hlv hends.rf hends.rt hfl
  obtain ⟨hl36, hin⟩ := steps_facts (c := c) (t := t) hf12
  have hGr := graph_ok f t l e he
  have hEq := eqSteps_ok l (stepsV c f t) (by omega)
  by_cases hls : l ≠ stepsV c f t
  · rw [decide_eq_false hls] at hEq
    rw [if_neg hls]
    generalize stepsV c f t = L at *
    refine Fn.of tab_ok Tryz.func21 rfl (by decide) (by simp [Tryz.f21]) rfl (fun κ v h => by cases h) Gw.below ?_
    repeat' (first|refine zS ?_|refine zR ?_|refine zE tab_ok rfl rfl ?_|refine zN ?_|(refine zG rfl rfl (fun _ => ?_) fun _ => ?_)<;>refine zE tab_ok rfl rfl ?_|(refine zC rfl (fun _ => ?_) fun _ => ?_)<;>try (rename_i h; cases h; done)|refine zB ?_|refine zK ?_|refine zZ ⟨_, rfl, ?_⟩)
    refine Sq.callv rfl (hE) ?_
    repeat' (first|refine zS ?_|refine zR ?_|refine zE tab_ok rfl rfl ?_|refine zN ?_|(refine zG rfl rfl (fun _ => ?_) fun _ => ?_)<;>refine zE tab_ok rfl rfl ?_|(refine zC rfl (fun _ => ?_) fun _ => ?_)<;>try (rename_i h; cases h; done)|refine zB ?_|refine zK ?_|refine zZ ⟨_, rfl, ?_⟩)
    refine Sq.callv rfl (hGr) ?_
    repeat' (first|refine zS ?_|refine zR ?_|refine zE tab_ok rfl rfl ?_|refine zN ?_|(refine zG rfl rfl (fun _ => ?_) fun _ => ?_)<;>refine zE tab_ok rfl rfl ?_|(refine zC rfl (fun _ => ?_) fun _ => ?_)<;>try (rename_i h; cases h; done)|refine zB ?_|refine zK ?_|refine zZ ⟨_, rfl, ?_⟩)
    refine Tr.drawn ( zD tab_ok rfl rfl <| zD tab_ok rfl rfl <| zD tab_ok rfl rfl <| zD tab_ok rfl rfl <| zD tab_ok rfl rfl <| zD tab_ok rfl rfl <| zD tab_ok rfl rfl <| DSq.call rfl (fun _ => rfl) (hS) <| DSq.call rfl (fun _ => rfl) (hEq) <| zD tab_ok rfl rfl <| DSq.nil _) mix_ok rfl ?_
    repeat' (first|refine zS ?_|refine zR ?_|refine zE tab_ok rfl rfl ?_|refine zN ?_|(refine zG rfl rfl (fun _ => ?_) fun _ => ?_)<;>refine zE tab_ok rfl rfl ?_|(refine zC rfl (fun _ => ?_) fun _ => ?_)<;>try (rename_i h; cases h; done)|refine zB ?_|refine zK ?_|refine zZ ⟨_, rfl, ?_⟩)
    rfl
  have hls : l = stepsV c f t := Classical.not_not.1 hls
  rw [decide_eq_true hls] at hEq
  rw [if_pos hls]
  rw [← hls] at hS hEq hin hl36
  clear hls
  have hO := Order_ok _ _ (by omega) (by omega) hp cyc hcyc
  have hR := Reach_ok _ _ (by omega) (by omega) hp
  refine Fn.of tab_ok Tryz.func21 rfl (by decide) (by simp [Tryz.f21]) rfl (fun κ v h => by cases h) Gw.below ?_
  repeat' (first|refine zS ?_|refine zR ?_|refine zE tab_ok rfl rfl ?_|refine zN ?_|(refine zG rfl rfl (fun _ => ?_) fun _ => ?_)<;>refine zE tab_ok rfl rfl ?_|(refine zC rfl (fun _ => ?_) fun _ => ?_)<;>try (rename_i h; cases h; done)|refine zB ?_|refine zK ?_|refine zZ ⟨_, rfl, ?_⟩)
  refine Sq.callv rfl (hE) ?_
  repeat' (first|refine zS ?_|refine zR ?_|refine zE tab_ok rfl rfl ?_|refine zN ?_|(refine zG rfl rfl (fun _ => ?_) fun _ => ?_)<;>refine zE tab_ok rfl rfl ?_|(refine zC rfl (fun _ => ?_) fun _ => ?_)<;>try (rename_i h; cases h; done)|refine zB ?_|refine zK ?_|refine zZ ⟨_, rfl, ?_⟩)
  refine Sq.callv rfl (hGr) ?_
  repeat' (first|refine zS ?_|refine zR ?_|refine zE tab_ok rfl rfl ?_|refine zN ?_|(refine zG rfl rfl (fun _ => ?_) fun _ => ?_)<;>refine zE tab_ok rfl rfl ?_|(refine zC rfl (fun _ => ?_) fun _ => ?_)<;>try (rename_i h; cases h; done)|refine zB ?_|refine zK ?_|refine zZ ⟨_, rfl, ?_⟩)
  refine Tr.drawn ( zD tab_ok rfl rfl <| zD tab_ok rfl rfl <| zD tab_ok rfl rfl <| zD tab_ok rfl rfl <| zD tab_ok rfl rfl <| zD tab_ok rfl rfl <| zD tab_ok rfl rfl <| DSq.call rfl (fun _ => rfl) (hS) <| DSq.call rfl (fun _ => rfl) (hEq) <| zD tab_ok rfl rfl <| DSq.nil _) mix_ok rfl ?_
  repeat' (first|refine zS ?_|refine zR ?_|refine zE tab_ok rfl rfl ?_|refine zN ?_|(refine zG rfl rfl (fun _ => ?_) fun _ => ?_)<;>refine zE tab_ok rfl rfl ?_|(refine zC rfl (fun _ => ?_) fun _ => ?_)<;>try (rename_i h; cases h; done)|refine zB ?_|refine zK ?_|refine zZ ⟨_, rfl, ?_⟩)
  refine zL rfl hO ?_
  rintro _ ⟨o, rfl⟩
  cases hcy : cyc
  case true =>
    repeat' (first|refine zS ?_|refine zR ?_|refine zE tab_ok rfl rfl ?_|refine zN ?_|(refine zG rfl rfl (fun _ => ?_) fun _ => ?_)<;>refine zE tab_ok rfl rfl ?_|(refine zC rfl (fun _ => ?_) fun _ => ?_)<;>try (rename_i h; cases h; done)|refine zB ?_|refine zK ?_|refine zZ ⟨_, rfl, ?_⟩)
    rfl
  repeat' (first|refine zS ?_|refine zR ?_|refine zE tab_ok rfl rfl ?_|refine zN ?_|(refine zG rfl rfl (fun _ => ?_) fun _ => ?_)<;>refine zE tab_ok rfl rfl ?_|(refine zC rfl (fun _ => ?_) fun _ => ?_)<;>try (rename_i h; cases h; done)|refine zB ?_|refine zK ?_|refine zZ ⟨_, rfl, ?_⟩)
  refine zL rfl hR ?_
  rintro _ ⟨R, rfl, hRl, hRb⟩
  repeat' (first|refine zS ?_|refine zR ?_|refine zE tab_ok rfl rfl ?_|refine zN ?_|(refine zG rfl rfl (fun _ => ?_) fun _ => ?_)<;>refine zE tab_ok rfl rfl ?_|(refine zC rfl (fun _ => ?_) fun _ => ?_)<;>try (rename_i h; cases h; done)|refine zB ?_|refine zK ?_|refine zZ ⟨_, rfl, ?_⟩)
  refine Tr.loopS (fun i : Nat => [(.s 2, .ptr (.l 2) 0), (.l 2, .blk 24 [.tr (.ls (c.map svcT))]), (.s 3, .ptr (.l 3) 0), (.l 3, .blk 35 [.tr (.ls (f.map intT)), .tr (.ls (t.map intT)), .tr (.ls (l.map stpT)), .tr (.ls (e.map edT))]), (.s 9, .tr (.ls (R.map u64T))), (.s 49, .tr (.ls (l.map stpT))), (.s 50, int (l.map stpT).length), (.s 51, int i)]) (fun i => l.length - i) (fun i => i ≤ l.length ∧ ∀ j, j < i → ∀ k a b, l[j]? = some a → l[k]? = some b → aheadS c f t a b = true → EdgeWay e j k)
    0 ⟨by omega, by intro j hj; omega⟩ (Sub.app (l := [_, _, _, _, _, _, _, _]) (H := []) ⟨rfl, rfl, rfl, rfl, rfl, rfl, rfl, rfl, trivial⟩ (fun κ v h => nomatch h)) ?_
  rintro i ⟨hi, hall⟩
  repeat' (first|refine zS ?_|refine zR ?_|refine zE tab_ok rfl rfl ?_|refine zN ?_|(refine zG rfl rfl (fun _ => ?_) fun _ => ?_)<;>refine zE tab_ok rfl rfl ?_|(refine zC rfl (fun _ => ?_) fun _ => ?_)<;>try (rename_i h; cases h; done)|refine zB ?_|refine zK ?_|refine zZ ⟨_, rfl, ?_⟩)
  · rename_i h2
    have h2 : decide ((i : Int) < ((l.map stpT).length : Int)) = true := h2
    have hlt : i < l.length := by simp only [List.length_map, decide_eq_true_eq] at h2; omega
    obtain ⟨a, ha⟩ : ∃ a, l[i]? = some a := ⟨_, List.getElem?_eq_getElem hlt⟩
    have hae : (l.map stpT)[((i : Nat) : Int).toNat]? = some (stpT a) := by simp [ha]
    obtain ⟨a1, a2⟩ := hin a (List.mem_of_getElem? ha)
    obtain ⟨x, hx⟩ : ∃ x, R[i]? = some x := ⟨_, List.getElem?_eq_getElem (by omega)⟩
    have hxe : (R.map u64T)[((i : Nat) : Int).toNat]? = some (u64T x) := by simp [hx]
    have hxb := hRb i x hx
    refine zI (x := stpT a) tab_ok rfl (by omega) (hae) rfl ?_
    repeat' (first|refine zS ?_|refine zR ?_|refine zE tab_ok rfl rfl ?_|refine zN ?_|(refine zG rfl rfl (fun _ => ?_) fun _ => ?_)<;>refine zE tab_ok rfl rfl ?_|(refine zC rfl (fun _ => ?_) fun _ => ?_)<;>try (rename_i h; cases h; done)|refine zB ?_|refine zK ?_|refine zZ ⟨_, rfl, ?_⟩)
    refine Tr.loopS (fun k : Nat => [(.s 2, .ptr (.l 2) 0), (.l 2, .blk 24 [.tr (.ls (c.map svcT))]), (.s 3, .ptr (.l 3) 0), (.l 3, .blk 35 [.tr (.ls (f.map intT)), .tr (.ls (t.map intT)), .tr (.ls (l.map stpT)), .tr (.ls (e.map edT))]), (.s 9, .tr (.ls (R.map u64T))), (.s 49, .tr (.ls (l.map stpT))), (.s 50, int (l.map stpT).length), (.s 51, int i),
        (.s 11, int i), (.s 12, .ptr (.l 12) 0), (.l 12, .blk 56 [int a.s, int a.k]), (.s 57, .tr (.ls (l.map stpT))), (.s 58, int (l.map stpT).length), (.s 59, int k)]) (fun k => l.length - k) (fun k => k ≤ l.length ∧ ∀ j, j < k → ∀ b, l[j]? = some b → aheadS c f t a b = true → EdgeWay e i j)
      0 ⟨by omega, by intro j hj; omega⟩ (Sub.app (l := [_, _, _, _, _, _, _, _, _, _, _, _, _, _]) (H := []) ⟨rfl, rfl, rfl, rfl, rfl, rfl, rfl, rfl, rfl, rfl, rfl, rfl, rfl, rfl, trivial⟩ (fun κ v h => nomatch h)) ?_
    rintro k ⟨hk, hrow⟩
    repeat' (first|refine zS ?_|refine zR ?_|refine zE tab_ok rfl rfl ?_|refine zN ?_|(refine zG rfl rfl (fun _ => ?_) fun _ => ?_)<;>refine zE tab_ok rfl rfl ?_|(refine zC rfl (fun _ => ?_) fun _ => ?_)<;>try (rename_i h; cases h; done)|refine zB ?_|refine zK ?_|refine zZ ⟨_, rfl, ?_⟩)
    · rename_i h3
      have h3 : decide ((k : Int) < ((l.map stpT).length : Int)) = true := h3
      have hlt2 : k < l.length := by simp only [List.length_map, decide_eq_true_eq] at h3; omega
      obtain ⟨b, hb⟩ : ∃ b, l[k]? = some b := ⟨_, List.getElem?_eq_getElem hlt2⟩
      have hbe : (l.map stpT)[((k : Nat) : Int).toNat]? = some (stpT b) := by simp [hb]
      obtain ⟨b1, b2⟩ := hin b (List.mem_of_getElem? hb)
      have hAh := stepAhead_ok hok f t l e a2 b2 a1 (by omega)
      have hnext : (aheadS c f t a b = true → EdgeWay e i k) → ∀ j, j < k + 1 → ∀ b, l[j]? = some b → aheadS c f t a b = true → EdgeWay e i j := fun h j hj b' hb' h' => by
        rcases Nat.lt_succ_iff_lt_or_eq.1 hj with h4 | rfl
        · exact hrow j h4 b' hb' h'
        · rw [hb] at hb'; obtain rfl := Option.some.inj hb'; exact h h'
      refine zI (x := stpT b) tab_ok rfl (by omega) (hbe) rfl ?_
      repeat' (first|refine zS ?_|refine zR ?_|refine zE tab_ok rfl rfl ?_|refine zN ?_|(refine zG rfl rfl (fun _ => ?_) fun _ => ?_)<;>refine zE tab_ok rfl rfl ?_|(refine zC rfl (fun _ => ?_) fun _ => ?_)<;>try (rename_i h; cases h; done)|refine zB ?_|refine zK ?_|refine zZ ⟨_, rfl, ?_⟩)
      cases hab : aheadS c f t a b
      · rw [hab] at hAh
        refine Sq.callv rfl (hAh) ?_
        repeat' (first|refine zS ?_|refine zR ?_|refine zE tab_ok rfl rfl ?_|refine zN ?_|(refine zG rfl rfl (fun _ => ?_) fun _ => ?_)<;>refine zE tab_ok rfl rfl ?_|(refine zC rfl (fun _ => ?_) fun _ => ?_)<;>try (rename_i h; cases h; done)|refine zB ?_|refine zK ?_|refine zZ ⟨_, rfl, ?_⟩)
        exact ⟨k + 1, ⟨by omega, hnext (fun h => by rw [hab] at h; cases h)⟩, by omega, Sub.app (l := [_, _, _, _, _, _, _, _, _, _, _, _, _, _]) (H := []) ⟨rfl, rfl, rfl, rfl, rfl, rfl, rfl, rfl, rfl, rfl, rfl, rfl, rfl, congrArg some (wrapz (by omega) (by omega) (by omega)), trivial⟩ (fun κ v h => nomatch h)⟩
      · rw [hab] at hAh
        refine Sq.callv rfl (hAh) ?_
        repeat' (first|refine zS ?_|refine zR ?_|refine zE tab_ok rfl rfl ?_|refine zN ?_|(refine zG rfl rfl (fun _ => ?_) fun _ => ?_)<;>refine zE tab_ok rfl rfl ?_|(refine zC rfl (fun _ => ?_) fun _ => ?_)<;>try (rename_i h; cases h; done)|refine zB ?_|refine zK ?_|refine zZ ⟨_, rfl, ?_⟩)
        refine zI (x := u64T x) tab_ok rfl (by omega) (hxe) rfl ?_
        refine zE tab_ok rfl rfl ?_
        refine zE tab_ok rfl rfl ?_
        refine Sq.shift rfl x k rfl rfl (by omega) ?_
        refine Sq.bits rfl (x >>> k) 1#64 (r := x >>> k &&& 1#64) rfl rfl rfl ?_
        repeat' (first|refine zS ?_|refine zR ?_|refine zE tab_ok rfl rfl ?_|refine zN ?_|(refine zG rfl rfl (fun _ => ?_) fun _ => ?_)<;>refine zE tab_ok rfl rfl ?_|(refine zC rfl (fun _ => ?_) fun _ => ?_)<;>try (rename_i h; cases h; done)|refine zB ?_|refine zK ?_|refine zZ ⟨_, rfl, ?_⟩)
        · rename_i h6
          have h6 : (((x >>> k &&& 1#64).toNat : Int) == 0) = true := h6
          rw [bit1_0] at h6
          show int 45 = int _
          have hnb : rb = false := by
            rw [← Bool.not_eq_true]
            intro h
            have := (hxb k (by omega)).2 (hrb.1 h i k a b ha hb hab)
            rw [this] at h6; cases h6
          rw [hnb]; rfl
        · rename_i h6
          have h6 : (((x >>> k &&& 1#64).toNat : Int) == 0) = false := h6
          rw [bit1_0] at h6
          exact ⟨k + 1, ⟨by omega, hnext (fun _ => (hxb k (by omega)).1 (by simpa using h6))⟩, by omega, Sub.app (l := [_, _, _, _, _, _, _, _, _, _, _, _, _, _]) (H := []) ⟨rfl, rfl, rfl, rfl, rfl, rfl, rfl, rfl, rfl, rfl, rfl, rfl, rfl, congrArg some (wrapz (by omega) (by omega) (by omega)), trivial⟩ (fun κ v h => nomatch h)⟩
    · rename_i h3
      have h3 : decide ((k : Int) < ((l.map stpT).length : Int)) = false := h3
      have hge : l.length ≤ k := by simp only [List.length_map, decide_eq_false_iff_not] at h3; omega
      refine Tr.exit ?_
      repeat' (first|refine zS ?_|refine zR ?_|refine zE tab_ok rfl rfl ?_|refine zN ?_|(refine zG rfl rfl (fun _ => ?_) fun _ => ?_)<;>refine zE tab_ok rfl rfl ?_|(refine zC rfl (fun _ => ?_) fun _ => ?_)<;>try (rename_i h; cases h; done)|refine zB ?_|refine zK ?_|refine zZ ⟨_, rfl, ?_⟩)
      refine ⟨i + 1, ⟨by omega, ?_⟩, by omega, Sub.app (l := [_, _, _, _, _, _, _, _]) (H := []) ⟨rfl, rfl, rfl, rfl, rfl, rfl, rfl, congrArg some (wrapz (by omega) (by omega) (by omega)), trivial⟩ (fun κ v h => nomatch h)⟩
      intro j hj k' a' b' ha' hb' h'
      rcases Nat.lt_succ_iff_lt_or_eq.1 hj with h4 | rfl
      · exact hall j h4 k' a' b' ha' hb' h'
      · rw [ha] at ha'; obtain rfl := Option.some.inj ha'
        have := (List.getElem?_eq_some_iff.1 hb').1
        exact hrow k' (by omega) b' hb' h'
  · rename_i h2
    have h2 : decide ((i : Int) < ((l.map stpT).length : Int)) = false := h2
    have hge : l.length ≤ i := by simp only [List.length_map, decide_eq_false_iff_not] at h2; omega
    refine Tr.exit ?_
    repeat' (first|refine zS ?_|refine zR ?_|refine zE tab_ok rfl rfl ?_|refine zN ?_|(refine zG rfl rfl (fun _ => ?_) fun _ => ?_)<;>refine zE tab_ok rfl rfl ?_|(refine zC rfl (fun _ => ?_) fun _ => ?_)<;>try (rename_i h; cases h; done)|refine zB ?_|refine zK ?_|refine zZ ⟨_, rfl, ?_⟩)
    have : rb = true := hrb.2 fun j k a b ha hb h => hall j (by have := (List.getElem?_eq_some_iff.1 ha).1; omega) k a b ha hb h
    rw [this]; rfl
end Go.Lg.Tryz

set_option linter.unusedVariables false
set_option linter.unusedSimpArgs false
namespace Go.Lg.Tryz
open Go Go.Proofs Go.RowKit Go.Lib Go.Lg.Sem
theorem rch_self (c : Ctl) (f t : List Int) : RchP c f t (stepsV c f t) (befV c f t) := fun i k a b ha hb h => .one (bef_mem.2 ⟨a, b, ha, hb, h⟩)
abbrev exF : List Int := [0, 0]
abbrev exT : List Int := [1, 1]
abbrev exL : List Stp := [⟨0, 2⟩, ⟨1, 2⟩]
abbrev exB : List (Nat × Nat) := [(1, 0)]
theorem exSteps : stepsV exC exF exT = exL := by decide +kernel
theorem exBef : befV exC exF exT = exB := by decide +kernel
theorem exEnds : endsV exC exF exT = 0 := by decide +kernel
theorem exCyc : false = true ↔ CycP exL.length exB := by
  refine ⟨fun h => (nomatch h), ?_⟩
  rintro ⟨a, _, h⟩
  exfalso
  have key : ∀ a b, EdgeWay exB a b → a = 1 ∧ b = 0 := by
    intro a b h
    induction h with
    | one e => simpa using e
    | snoc _ e ih =>
      obtain ⟨rfl, rfl⟩ := ih
      simp at e
  obtain ⟨rfl, h⟩ := key _ _ h
  omega
theorem anchor1_ok (op : Int) (v : Ver) : Fn Tryz.prog Gw 42 [int op, .tr (Ver.t v)] [] (· = .own 105 (([⟨0, [[⟨op, v⟩]]⟩] : List Nd).map ndT)) := by
  refine Fn.of tab_ok Tryz.func42 rfl (by decide) (by simp [Tryz.f42]) rfl (fun κ v h => by cases h) Gw.below ?_
  repeat' (first|refine zS ?_|refine zR ?_|refine zE tab_ok rfl rfl ?_|refine zN ?_|(refine zG rfl rfl (fun _ => ?_) fun _ => ?_)<;>refine zE tab_ok rfl rfl ?_|(refine zC rfl (fun _ => ?_) fun _ => ?_)<;>try (rename_i h; cases h; done)|refine zB ?_|refine zK ?_|refine zZ ⟨_, rfl, ?_⟩)
  rfl
set_option maxRecDepth 8192 in
theorem planAnchor_ok : Fn Tryz.prog Gw 12 [] [] (· = bool true) := by
  have h6 := anchor1_ok 6 (vN 1)
  have h0 := anchor1_ok 0 (vN 0)
  have hM := Make_ok exC_ok (by decide) (fun s hs => exC_lv s hs) exF exT false (by rw [exSteps, exBef]; exact exCyc) (by decide) (by decide)
  have hz : makeZ exC exF exT false = 0 := by unfold makeZ; rw [exEnds]; rfl
  have hP : makeP exC exF exT false = ⟨exF, exT, exL, exB⟩ := by unfold makeP planV; rw [if_pos hz, exSteps, exBef]
  rw [hz, hP] at hM
  have hC := planCheck_ok exC_ok (by decide) (fun s hs => exC_lv s hs) exF exT exL exB (by decide) (by decide) (by decide) false exCyc true (by refine ⟨fun _ => ?_, fun _ => rfl⟩; have := rch_self exC exF exT; rw [exSteps, exBef] at this; exact this) (by decide) (by decide)
  have hcz : chkZ exC exF exT exL false true = 0 := by unfold chkZ; rw [exEnds, exSteps]; rfl
  rw [hcz] at hC
  refine Fn.of tab_ok Tryz.func12 rfl (by decide) (by simp [Tryz.f12]) rfl (fun κ v h => by cases h) Gw.below ?_
  repeat' (first|refine zS ?_|refine zR ?_|refine zE tab_ok rfl rfl ?_|refine zN ?_|(refine zG rfl rfl (fun _ => ?_) fun _ => ?_)<;>refine zE tab_ok rfl rfl ?_|(refine zC rfl (fun _ => ?_) fun _ => ?_)<;>try (rename_i h; cases h; done)|refine zB ?_|refine zK ?_|refine zZ ⟨_, rfl, ?_⟩)
  refine Tr.drawn ( zD tab_ok rfl rfl <| zD tab_ok rfl rfl <| zD tab_ok rfl rfl <| zD tab_ok rfl rfl <| zD tab_ok rfl rfl <| zD tab_ok rfl rfl <| zD tab_ok rfl rfl <| zD tab_ok rfl rfl <| zD tab_ok rfl rfl <| DSq.call rfl (fun _ => rfl) (h6) <| zD tab_ok rfl rfl <| zD tab_ok rfl rfl <| zD tab_ok rfl rfl <| zD tab_ok rfl rfl <| DSq.call rfl (fun _ => rfl) (h0) <| zD tab_ok rfl rfl <| zD tab_ok rfl rfl <| zD tab_ok rfl rfl <| zD tab_ok rfl rfl <| zD tab_ok rfl rfl <| zD tab_ok rfl rfl <| zD tab_ok rfl rfl <| DSq.nil _) mix_ok rfl ?_
  refine zS ?_
  refine Tr.sub (m' := [(.s 4, .ptr (.l 4) 0), (.l 4, .blk 24 [.tr (.ls (exC.map svcT))])]) ⟨rfl, rfl, trivial⟩ ?_
  clear hz hP hcz h6 h0
  generalize exC = X at *
  repeat' (first|refine zS ?_|refine zR ?_|refine zE tab_ok rfl rfl ?_|refine zN ?_|(refine zG rfl rfl (fun _ => ?_) fun _ => ?_)<;>refine zE tab_ok rfl rfl ?_|(refine zC rfl (fun _ => ?_) fun _ => ?_)<;>try (rename_i h; cases h; done)|refine zB ?_|refine zK ?_|refine zZ ⟨_, rfl, ?_⟩)
  refine Sq.callv rfl (hM) ?_
  repeat' (first|refine zS ?_|refine zR ?_|refine zE tab_ok rfl rfl ?_|refine zN ?_|(refine zG rfl rfl (fun _ => ?_) fun _ => ?_)<;>refine zE tab_ok rfl rfl ?_|(refine zC rfl (fun _ => ?_) fun _ => ?_)<;>try (rename_i h; cases h; done)|refine zB ?_|refine zK ?_|refine zZ ⟨_, rfl, ?_⟩)
  refine zI (x := edT (1, 0)) tab_ok rfl (by decide) rfl rfl ?_
  refine zE tab_ok rfl rfl ?_
  refine zE tab_ok rfl rfl ?_
  refine Sq.eqag rfl (by kernel_rfl) (fun w => eqA_ed 9998 1 0 w) ?_
  repeat' (first|refine zS ?_|refine zR ?_|refine zE tab_ok rfl rfl ?_|refine zN ?_|(refine zG rfl rfl (fun _ => ?_) fun _ => ?_)<;>refine zE tab_ok rfl rfl ?_|(refine zC rfl (fun _ => ?_) fun _ => ?_)<;>try (rename_i h; cases h; done)|refine zB ?_|refine zK ?_|refine zZ ⟨_, rfl, ?_⟩)
  refine Sq.callv rfl (hC) ?_
  repeat' (first|refine zS ?_|refine zR ?_|refine zE tab_ok rfl rfl ?_|refine zN ?_|(refine zG rfl rfl (fun _ => ?_) fun _ => ?_)<;>refine zE tab_ok rfl rfl ?_|(refine zC rfl (fun _ => ?_) fun _ => ?_)<;>try (rename_i h; cases h; done)|refine zB ?_|refine zK ?_|refine zZ ⟨_, rfl, ?_⟩)
  rfl
end Go.Lg.Tryz

set_option linter.unusedVariables false
set_option linter.unusedSimpArgs false
namespace Go.Lg.Tryz
open Go Go.Proofs Go.RowKit Go.Lib Go.Lg.Sem
def placeB (v f : Int) : Bool := decide (0 ≤ v) && decide (0 ≤ f) && decide (v ≤ 1048576) && decide (f ≤ 1048576)
theorem Place_ok (v f : Int) : Fn Tryz.prog Gw 36 [.tr (pT v f)] [] (· = bool (placeB v f)) := by
  refine Fn.of tab_ok Tryz.func36 rfl (by decide) (by simp [Tryz.f36]) rfl (fun κ v h => by cases h) Gw.below ?_
  repeat' (first|refine zS ?_|refine zR ?_|refine zE tab_ok rfl rfl ?_|refine zN ?_|(refine zG rfl rfl (fun _ => ?_) fun _ => ?_)<;>refine zE tab_ok rfl rfl ?_|(refine zC rfl (fun _ => ?_) fun _ => ?_)<;>try (rename_i h; cases h; done)|refine zB ?_|refine zK ?_|refine zZ ⟨_, rfl, ?_⟩)
  all_goals simp_all [placeB]
  all_goals omega
theorem refStands_ok {c : Ctl} (hlv : LvOk c) (i v f : Int) : Fn Tryz.prog Gw 67 [.tr (ctlT c), int i, .tr (pT v f)] [] (· = bool (standsB c i v f)) := by
  have hP := Place_ok v f
  by_cases h1 : i < 0
  · have d1 : decide (i < 0) = true := decide_eq_true h1
    have : standsB c i v f = false := by unfold standsB; rw [decide_eq_false (by omega)]; rfl
    rw [this]
    refine Fn.of tab_ok Tryz.func67 rfl (by decide) (by simp [Tryz.f67]) rfl (fun κ v h => by cases h) Gw.below ?_
    repeat' (first|refine zS ?_|refine zR ?_|refine zE tab_ok rfl rfl ?_|refine zN ?_|(refine zG rfl rfl (fun _ => ?_) fun _ => ?_)<;>refine zE tab_ok rfl rfl ?_|(refine zC rfl (fun _ => ?_) fun _ => ?_)<;>try (rename_i h; cases h; done)|refine zB ?_|refine zK ?_|refine zZ ⟨_, rfl, ?_⟩)
    refine Tr.drawn ( zD tab_ok rfl rfl <| DSq.evr tab_ok rfl (congrArg bool d1) <| zD tab_ok rfl rfl <| zD tab_ok rfl rfl <| zD tab_ok rfl rfl <| zD tab_ok rfl rfl <| zD tab_ok rfl rfl <| zD tab_ok rfl rfl <| zD tab_ok rfl rfl <| zD tab_ok rfl rfl <| zD tab_ok rfl rfl <| zD tab_ok rfl rfl <| zD tab_ok rfl rfl <| zD tab_ok rfl rfl <| zD tab_ok rfl rfl <| zD tab_ok rfl rfl <| zD tab_ok rfl rfl <| zD tab_ok rfl rfl <| zD tab_ok rfl rfl <| zD tab_ok rfl rfl <| zD tab_ok rfl rfl <| zD tab_ok rfl rfl <| zD tab_ok rfl rfl <| zD tab_ok rfl rfl <| zD tab_ok rfl rfl <| zD tab_ok rfl rfl <| DSq.nil _) mix_ok rfl ?_
    repeat' (first|refine zS ?_|refine zR ?_|refine zE tab_ok rfl rfl ?_|refine zN ?_|(refine zG rfl rfl (fun _ => ?_) fun _ => ?_)<;>refine zE tab_ok rfl rfl ?_|(refine zC rfl (fun _ => ?_) fun _ => ?_)<;>try (rename_i h; cases h; done)|refine zB ?_|refine zK ?_|refine zZ ⟨_, rfl, ?_⟩)
    rfl
  have d1 : decide (i < 0) = false := decide_eq_false h1
  by_cases h2 : i ≥ ((c.map svcT).length : Int)
  · have d2 : decide (i ≥ ((c.map svcT).length : Int)) = true := decide_eq_true h2
    have : standsB c i v f = false := by
      apply stands_none
      unfold relAt
      rw [List.getElem?_eq_none (by rw [List.length_map] at h2; omega)]
    rw [this]
    refine Fn.of tab_ok Tryz.func67 rfl (by decide) (by simp [Tryz.f67]) rfl (fun κ v h => by cases h) Gw.below ?_
    repeat' (first|refine zS ?_|refine zR ?_|refine zE tab_ok rfl rfl ?_|refine zN ?_|(refine zG rfl rfl (fun _ => ?_) fun _ => ?_)<;>refine zE tab_ok rfl rfl ?_|(refine zC rfl (fun _ => ?_) fun _ => ?_)<;>try (rename_i h; cases h; done)|refine zB ?_|refine zK ?_|refine zZ ⟨_, rfl, ?_⟩)
    refine Tr.drawn ( zD tab_ok rfl rfl <| DSq.evr tab_ok rfl (congrArg bool d1) <| zD tab_ok rfl rfl <| zD tab_ok rfl rfl <| zD tab_ok rfl rfl <| zD tab_ok rfl rfl <| zD tab_ok rfl rfl <| DSq.evr tab_ok rfl (congrArg bool d2) <| zD tab_ok rfl rfl <| zD tab_ok rfl rfl <| zD tab_ok rfl rfl <| zD tab_ok rfl rfl <| zD tab_ok rfl rfl <| zD tab_ok rfl rfl <| zD tab_ok rfl rfl <| zD tab_ok rfl rfl <| zD tab_ok rfl rfl <| zD tab_ok rfl rfl <| zD tab_ok rfl rfl <| zD tab_ok rfl rfl <| zD tab_ok rfl rfl <| zD tab_ok rfl rfl <| zD tab_ok rfl rfl <| zD tab_ok rfl rfl <| zD tab_ok rfl rfl <| zD tab_ok rfl rfl <| DSq.nil _) mix_ok rfl ?_
    repeat' (first|refine zS ?_|refine zR ?_|refine zE tab_ok rfl rfl ?_|refine zN ?_|(refine zG rfl rfl (fun _ => ?_) fun _ => ?_)<;>refine zE tab_ok rfl rfl ?_|(refine zC rfl (fun _ => ?_) fun _ => ?_)<;>try (rename_i h; cases h; done)|refine zB ?_|refine zK ?_|refine zZ ⟨_, rfl, ?_⟩)
    rfl
  have d2 : decide (i ≥ ((c.map svcT).length : Int)) = false := decide_eq_false h2
  rw [List.length_map] at h2
  obtain ⟨s, hs⟩ : ∃ s, c[i.toNat]? = some s := ⟨_, List.getElem?_eq_getElem (by omega)⟩
  have hse : (c.map svcT)[i.toNat]? = some (svcT s) := by simp [hs]
  obtain ⟨hs12, hsl⟩ := hlv s (List.mem_of_getElem? hs)
  cases hp : placeB v f
  · rw [hp] at hP
    have : standsB c i v f = false := by
      rw [← Bool.not_eq_true]
      intro h
      unfold standsB at h
      rw [Bool.and_eq_true, Bool.and_eq_true, decide_eq_true_eq, decide_eq_true_eq] at h
      obtain ⟨⟨_, hf0⟩, h⟩ := h
      cases hr : relAt c i v with
      | none => rw [hr] at h; cases h
      | some r =>
        rw [hr] at h
        simp only [Bool.and_eq_true, decide_eq_true_eq] at h
        unfold relAt at hr
        rw [hs] at hr
        simp only at hr
        split at hr
        · have hvl := (List.getElem?_eq_some_iff.1 hr).1
          obtain ⟨l0, l1⟩ := hsl r (List.mem_of_getElem? hr)
          have : placeB v f = true := by unfold placeB; simp only [Bool.and_eq_true, decide_eq_true_eq]; omega
          rw [this] at hp; cases hp
        · cases hr
    rw [this]
    refine Fn.of tab_ok Tryz.func67 rfl (by decide) (by simp [Tryz.f67]) rfl (fun κ v h => by cases h) Gw.below ?_
    repeat' (first|refine zS ?_|refine zR ?_|refine zE tab_ok rfl rfl ?_|refine zN ?_|(refine zG rfl rfl (fun _ => ?_) fun _ => ?_)<;>refine zE tab_ok rfl rfl ?_|(refine zC rfl (fun _ => ?_) fun _ => ?_)<;>try (rename_i h; cases h; done)|refine zB ?_|refine zK ?_|refine zZ ⟨_, rfl, ?_⟩)
    refine Tr.drawn ( zD tab_ok rfl rfl <| DSq.evr tab_ok rfl (congrArg bool d1) <| zD tab_ok rfl rfl <| zD tab_ok rfl rfl <| zD tab_ok rfl rfl <| zD tab_ok rfl rfl <| zD tab_ok rfl rfl <| DSq.evr tab_ok rfl (congrArg bool d2) <| zD tab_ok rfl rfl <| zD tab_ok rfl rfl <| zD tab_ok rfl rfl <| DSq.call rfl (fun _ => rfl) (hP) <| zD tab_ok rfl rfl <| zD tab_ok rfl rfl <| zD tab_ok rfl rfl <| zD tab_ok rfl rfl <| zD tab_ok rfl rfl <| zD tab_ok rfl rfl <| zD tab_ok rfl rfl <| zD tab_ok rfl rfl <| zD tab_ok rfl rfl <| zD tab_ok rfl rfl <| zD tab_ok rfl rfl <| zD tab_ok rfl rfl <| zD tab_ok rfl rfl <| zD tab_ok rfl rfl <| DSq.nil _) mix_ok rfl ?_
    repeat' (first|refine zS ?_|refine zR ?_|refine zE tab_ok rfl rfl ?_|refine zN ?_|(refine zG rfl rfl (fun _ => ?_) fun _ => ?_)<;>refine zE tab_ok rfl rfl ?_|(refine zC rfl (fun _ => ?_) fun _ => ?_)<;>try (rename_i h; cases h; done)|refine zB ?_|refine zK ?_|refine zZ ⟨_, rfl, ?_⟩)
    rfl
  rw [hp] at hP
  unfold placeB at hp
  simp only [Bool.and_eq_true, decide_eq_true_eq] at hp
  by_cases h3 : v ≥ ((s.rels.map rlsT).length : Int)
  · have d3 : decide (v ≥ ((s.rels.map rlsT).length : Int)) = true := decide_eq_true h3
    have : standsB c i v f = false := by
      apply stands_none
      unfold relAt
      rw [hs]
      simp only
      rw [if_pos (by omega), List.getElem?_eq_none (by rw [List.length_map] at h3; omega)]
    rw [this]
    refine Fn.of tab_ok Tryz.func67 rfl (by decide) (by simp [Tryz.f67]) rfl (fun κ v h => by cases h) Gw.below ?_
    repeat' (first|refine zS ?_|refine zR ?_|refine zE tab_ok rfl rfl ?_|refine zN ?_|(refine zG rfl rfl (fun _ => ?_) fun _ => ?_)<;>refine zE tab_ok rfl rfl ?_|(refine zC rfl (fun _ => ?_) fun _ => ?_)<;>try (rename_i h; cases h; done)|refine zB ?_|refine zK ?_|refine zZ ⟨_, rfl, ?_⟩)
    refine Tr.drawn ( zD tab_ok rfl rfl <| DSq.evr tab_ok rfl (congrArg bool d1) <| zD tab_ok rfl rfl <| zD tab_ok rfl rfl <| zD tab_ok rfl rfl <| zD tab_ok rfl rfl <| zD tab_ok rfl rfl <| DSq.evr tab_ok rfl (congrArg bool d2) <| zD tab_ok rfl rfl <| zD tab_ok rfl rfl <| zD tab_ok rfl rfl <| DSq.call rfl (fun _ => rfl) (hP) <| zD tab_ok rfl rfl <| zD tab_ok rfl rfl <| zD tab_ok rfl rfl <| zD tab_ok rfl rfl <| zD tab_ok rfl rfl <| zD tab_ok rfl rfl <| zD tab_ok rfl rfl <| zD tab_ok rfl rfl <| zO rfl (fun q K hK => zI (x := svcT s) tab_ok rfl (by omega) (hse) rfl (zN hK)) <| zD tab_ok rfl rfl <| zD tab_ok rfl rfl <| zD tab_ok rfl rfl <| DSq.evr tab_ok rfl (congrArg bool d3) <| zD tab_ok rfl rfl <| DSq.nil _) mix_ok rfl ?_
    repeat' (first|refine zS ?_|refine zR ?_|refine zE tab_ok rfl rfl ?_|refine zN ?_|(refine zG rfl rfl (fun _ => ?_) fun _ => ?_)<;>refine zE tab_ok rfl rfl ?_|(refine zC rfl (fun _ => ?_) fun _ => ?_)<;>try (rename_i h; cases h; done)|refine zB ?_|refine zK ?_|refine zZ ⟨_, rfl, ?_⟩)
    rfl
  have d3 : decide (v ≥ ((s.rels.map rlsT).length : Int)) = false := decide_eq_false h3
  rw [List.length_map] at h3
  obtain ⟨r, hr⟩ : ∃ s', s.rels[v.toNat]? = some s' := ⟨_, List.getElem?_eq_getElem (by omega)⟩
  have hre : (s.rels.map rlsT)[v.toNat]? = some (rlsT r) := by simp [hr]
  obtain ⟨l0, l1⟩ := hsl r (List.mem_of_getElem? hr)
  have hrel : relAt c i v = some r := by unfold relAt; rw [hs]; simp only; rw [if_pos (by omega), hr]
  have hst : standsB c i v f = (decide (-1 ≤ f - 2 * r.level) && decide (f - 2 * r.level ≤ 1)) := by
    unfold standsB; rw [hrel, decide_eq_true (by omega), decide_eq_true (by omega)]; rfl
  rw [hst]
  refine Fn.of tab_ok Tryz.func67 rfl (by decide) (by simp [Tryz.f67]) rfl (fun κ v h => by cases h) Gw.below ?_
  repeat' (first|refine zS ?_|refine zR ?_|refine zE tab_ok rfl rfl ?_|refine zN ?_|(refine zG rfl rfl (fun _ => ?_) fun _ => ?_)<;>refine zE tab_ok rfl rfl ?_|(refine zC rfl (fun _ => ?_) fun _ => ?_)<;>try (rename_i h; cases h; done)|refine zB ?_|refine zK ?_|refine zZ ⟨_, rfl, ?_⟩)
  refine Tr.drawn ( zD tab_ok rfl rfl <| DSq.evr tab_ok rfl (congrArg bool d1) <| zD tab_ok rfl rfl <| zD tab_ok rfl rfl <| zD tab_ok rfl rfl <| zD tab_ok rfl rfl <| zD tab_ok rfl rfl <| DSq.evr tab_ok rfl (congrArg bool d2) <| zD tab_ok rfl rfl <| zD tab_ok rfl rfl <| zD tab_ok rfl rfl <| DSq.call rfl (fun _ => rfl) (hP) <| zD tab_ok rfl rfl <| zD tab_ok rfl rfl <| zD tab_ok rfl rfl <| zD tab_ok rfl rfl <| zD tab_ok rfl rfl <| zD tab_ok rfl rfl <| zD tab_ok rfl rfl <| zD tab_ok rfl rfl <| zO rfl (fun q K hK => zI (x := svcT s) tab_ok rfl (by omega) (hse) rfl (zN hK)) <| zD tab_ok rfl rfl <| zD tab_ok rfl rfl <| zD tab_ok rfl rfl <| DSq.evr tab_ok rfl (congrArg bool d3) <| zD tab_ok rfl rfl <| DSq.nil _) mix_ok rfl ?_
  repeat' (first|refine zS ?_|refine zR ?_|refine zE tab_ok rfl rfl ?_|refine zN ?_|(refine zG rfl rfl (fun _ => ?_) fun _ => ?_)<;>refine zE tab_ok rfl rfl ?_|(refine zC rfl (fun _ => ?_) fun _ => ?_)<;>try (rename_i h; cases h; done)|refine zB ?_|refine zK ?_|refine zZ ⟨_, rfl, ?_⟩)
  refine Tr.drawn ( zD tab_ok rfl rfl <| zD tab_ok rfl rfl <| zD tab_ok rfl rfl <| zD tab_ok rfl rfl <| zD tab_ok rfl rfl <| zO rfl (fun q K hK => zI (x := svcT s) tab_ok rfl (by omega) (hse) rfl (zN hK)) <| zD tab_ok rfl rfl <| zD tab_ok rfl rfl <| zD tab_ok rfl rfl <| zD tab_ok rfl rfl <| zO rfl (fun q K hK => zI (x := rlsT r) tab_ok rfl (by omega) (hre) rfl (zN hK)) <| zD tab_ok rfl rfl <| zD tab_ok rfl rfl <| DSq.evr tab_ok rfl (congrArg int (Go.IntWalk.i64_in (2 * r.level) ⟨by omega, by omega⟩)) <| DSq.evr tab_ok rfl (congrArg int (Go.IntWalk.i64_in (f - 2 * r.level) ⟨by omega, by omega⟩)) <| zD tab_ok rfl rfl <| DSq.nil _) mix_ok rfl ?_
  generalize f - 2 * r.level = d at *
  repeat' (first|refine zS ?_|refine zR ?_|refine zE tab_ok rfl rfl ?_|refine zN ?_|(refine zG rfl rfl (fun _ => ?_) fun _ => ?_)<;>refine zE tab_ok rfl rfl ?_|(refine zC rfl (fun _ => ?_) fun _ => ?_)<;>try (rename_i h; cases h; done)|refine zB ?_|refine zK ?_|refine zZ ⟨_, rfl, ?_⟩)
  all_goals
    show bool _ = bool _
    congr 3
    rw [Bool.eq_iff_iff]
    simp_all
    try omega
abbrev rPl (p : Pl) : T := pT p.v p.f
theorem refGood_ok {c : Ctl} (h : Ctl.ok c) (hlv : LvOk c) (hc : c.length ≤ 1000000) (l : List Pl) :
    Fn Tryz.prog Gw 28 [.tr (ctlT c), .tr (.ls (l.map rPl))] [] (· = bool (goodB c l)) := by
  by_cases hlc : l.length ≠ c.length
  · have : goodB c l = false := by unfold goodB; rw [decide_eq_false hlc]; rfl
    rw [this]
    refine Fn.of tab_ok Tryz.func28 rfl (by decide) (by simp [Tryz.f28]) rfl (fun κ v h => by cases h) Gw.below ?_
    repeat' (first|refine zS ?_|refine zR ?_|refine zE tab_ok rfl rfl ?_|refine zN ?_|(refine zG rfl rfl (fun _ => ?_) fun _ => ?_)<;>refine zE tab_ok rfl rfl ?_|(refine zC rfl (fun _ => ?_) fun _ => ?_)<;>try (rename_i h; cases h; done)|refine zB ?_|refine zK ?_|refine zZ ⟨_, rfl, ?_⟩)
    · rfl
    · rename_i h; exfalso
      have h : (((l.map rPl).length : Int) != ((c.map svcT).length : Int)) = false := h
      rw [List.length_map, List.length_map] at h
      simp at h; omega
  have hlc : l.length = c.length := Classical.not_not.1 hlc
  have hG : goodB c l = (List.range l.length).all (goodAt c l) := by unfold goodB; rw [decide_eq_true hlc]; rfl
  refine Fn.of tab_ok Tryz.func28 rfl (by decide) (by simp [Tryz.f28]) rfl (fun κ v h => by cases h) Gw.below ?_
  repeat' (first|refine zS ?_|refine zR ?_|refine zE tab_ok rfl rfl ?_|refine zN ?_|(refine zG rfl rfl (fun _ => ?_) fun _ => ?_)<;>refine zE tab_ok rfl rfl ?_|(refine zC rfl (fun _ => ?_) fun _ => ?_)<;>try (rename_i h; cases h; done)|refine zB ?_|refine zK ?_|refine zZ ⟨_, rfl, ?_⟩)
  · rename_i h; exfalso
    have h : (((l.map rPl).length : Int) != ((c.map svcT).length : Int)) = true := h
    rw [List.length_map, List.length_map] at h
    simp at h; omega
  refine Tr.loopS (fun i : Nat => [(.s 1, .tr (.ls (l.map rPl))), (.s 2, .ptr (.l 2) 0), (.l 2, .blk 29 [.tr (.ls (c.map svcT))]), (.s 5, int i)]) (fun i => l.length - i)
    (fun i => i ≤ l.length ∧ ∀ k p, k < i → l[k]? = some p → standsB c k p.v p.f = true) 0 ⟨by omega, by intro k p hk; omega⟩ (Sub.app (l := [_, _, _, _]) (H := []) ⟨rfl, rfl, rfl, rfl, trivial⟩ (fun κ v h => nomatch h)) ?_
  rintro i ⟨hi, hp⟩
  repeat' (first|refine zS ?_|refine zR ?_|refine zE tab_ok rfl rfl ?_|refine zN ?_|(refine zG rfl rfl (fun _ => ?_) fun _ => ?_)<;>refine zE tab_ok rfl rfl ?_|(refine zC rfl (fun _ => ?_) fun _ => ?_)<;>try (rename_i h; cases h; done)|refine zB ?_|refine zK ?_|refine zZ ⟨_, rfl, ?_⟩)
  · rename_i h2
    have hlt : i < l.length := by simp only [List.length_map, decide_eq_true_eq] at h2; omega
    obtain ⟨p, hpi⟩ : ∃ p, l[i]? = some p := ⟨_, List.getElem?_eq_getElem hlt⟩
    have hpe : (l.map rPl)[((i : Nat) : Int).toNat]? = some (rPl p) := by simp [hpi]
    have hS := refStands_ok hlv (i : Int) p.v p.f
    cases hst : standsB c i p.v p.f
    · rw [hst] at hS
      refine Tr.drawn ( zD tab_ok rfl rfl <| zD tab_ok rfl rfl <| zD tab_ok rfl rfl <| zD tab_ok rfl rfl <| zO rfl (fun q K hK => zI (x := rPl p) tab_ok rfl (by omega) (hpe) rfl (zN hK)) <| zD tab_ok rfl rfl <| DSq.call rfl (fun _ => rfl) (hS) <| zD tab_ok rfl rfl <| DSq.nil _) mix_ok rfl ?_
      repeat' (first|refine zS ?_|refine zR ?_|refine zE tab_ok rfl rfl ?_|refine zN ?_|(refine zG rfl rfl (fun _ => ?_) fun _ => ?_)<;>refine zE tab_ok rfl rfl ?_|(refine zC rfl (fun _ => ?_) fun _ => ?_)<;>try (rename_i h; cases h; done)|refine zB ?_|refine zK ?_|refine zZ ⟨_, rfl, ?_⟩)
      have : goodB c l = false := by
        rw [hG, ← Bool.not_eq_true, List.all_eq_true]
        intro hh
        have := hh i (List.mem_range.2 hlt)
        unfold goodAt at this
        rw [hpi] at this
        simp only at this
        rw [hst] at this; cases this
      rw [this]
    · rw [hst] at hS
      refine Tr.drawn ( zD tab_ok rfl rfl <| zD tab_ok rfl rfl <| zD tab_ok rfl rfl <| zD tab_ok rfl rfl <| zO rfl (fun q K hK => zI (x := rPl p) tab_ok rfl (by omega) (hpe) rfl (zN hK)) <| zD tab_ok rfl rfl <| DSq.call rfl (fun _ => rfl) (hS) <| zD tab_ok rfl rfl <| DSq.nil _) mix_ok rfl ?_
      repeat' (first|refine zS ?_|refine zR ?_|refine zE tab_ok rfl rfl ?_|refine zN ?_|(refine zG rfl rfl (fun _ => ?_) fun _ => ?_)<;>refine zE tab_ok rfl rfl ?_|(refine zC rfl (fun _ => ?_) fun _ => ?_)<;>try (rename_i h; cases h; done)|refine zB ?_|refine zK ?_|refine zZ ⟨_, rfl, ?_⟩)
      exact ⟨i + 1, ⟨by omega, fun k q hk hq => by
        rcases Nat.lt_succ_iff_lt_or_eq.1 hk with h4 | rfl
        · exact hp k q h4 hq
        · rw [hpi] at hq; obtain rfl := Option.some.inj hq; exact hst⟩, by omega, Sub.app (l := [_, _, _, _]) (H := []) ⟨rfl, rfl, rfl, congrArg some (wrapz (by omega) (by omega) (by omega)), trivial⟩ (fun κ v h => nomatch h)⟩
  rename_i h2
  have : i = l.length := by simp only [List.length_map, decide_eq_false_iff_not] at h2; omega
  subst this
  refine Tr.exit ?_
  repeat' (first|refine zS ?_|refine zR ?_|refine zE tab_ok rfl rfl ?_|refine zN ?_|(refine zG rfl rfl (fun _ => ?_) fun _ => ?_)<;>refine zE tab_ok rfl rfl ?_|(refine zC rfl (fun _ => ?_) fun _ => ?_)<;>try (rename_i h; cases h; done)|refine zB ?_|refine zK ?_|refine zZ ⟨_, rfl, ?_⟩)
  refine Tr.loopS (fun i : Nat => [(.s 1, .tr (.ls (l.map rPl))), (.s 2, .ptr (.l 2) 0), (.l 2, .blk 29 [.tr (.ls (c.map svcT))]), (.s 6, int i)]) (fun i => l.length - i)
    (fun i => i ≤ l.length ∧ ∀ k p j q, k < i → l[k]? = some p → j < k → l[j]? = some q → fitsB c k p.v j q.v = true) 0 ⟨by omega, by intro k p j q hk; omega⟩ (Sub.app (l := [_, _, _, _]) (H := []) ⟨rfl, rfl, rfl, rfl, trivial⟩ (fun κ v h => nomatch h)) ?_
  rintro i ⟨hi, hq⟩
  repeat' (first|refine zS ?_|refine zR ?_|refine zE tab_ok rfl rfl ?_|refine zN ?_|(refine zG rfl rfl (fun _ => ?_) fun _ => ?_)<;>refine zE tab_ok rfl rfl ?_|(refine zC rfl (fun _ => ?_) fun _ => ?_)<;>try (rename_i h; cases h; done)|refine zB ?_|refine zK ?_|refine zZ ⟨_, rfl, ?_⟩)
  · rename_i h3
    have hlt : i < l.length := by simp only [List.length_map, decide_eq_true_eq] at h3; omega
    obtain ⟨p, hpi⟩ : ∃ p, l[i]? = some p := ⟨_, List.getElem?_eq_getElem hlt⟩
    have hpe : (l.map rPl)[((i : Nat) : Int).toNat]? = some (rPl p) := by simp [hpi]
    refine Tr.loopS (fun j : Nat => [(.s 1, .tr (.ls (l.map rPl))), (.s 2, .ptr (.l 2) 0), (.l 2, .blk 29 [.tr (.ls (c.map svcT))]), (.s 6, int i), (.s 7, int j)]) (fun j => i - j)
      (fun j => j ≤ i ∧ ∀ k q, k < j → l[k]? = some q → fitsB c i p.v k q.v = true) 0 ⟨by omega, by intro k q hk; omega⟩ (Sub.app (l := [_, _, _, _, _]) (H := []) ⟨rfl, rfl, rfl, rfl, rfl, trivial⟩ (fun κ v h => nomatch h)) ?_
    rintro j ⟨hj, hr⟩
    repeat' (first|refine zS ?_|refine zR ?_|refine zE tab_ok rfl rfl ?_|refine zN ?_|(refine zG rfl rfl (fun _ => ?_) fun _ => ?_)<;>refine zE tab_ok rfl rfl ?_|(refine zC rfl (fun _ => ?_) fun _ => ?_)<;>try (rename_i h; cases h; done)|refine zB ?_|refine zK ?_|refine zZ ⟨_, rfl, ?_⟩)
    · rename_i h4
      have hj2 : j < i := by have := of_decide_eq_true h4; omega
      obtain ⟨u, hqj⟩ : ∃ u, l[j]? = some u := ⟨_, List.getElem?_eq_getElem (by omega)⟩
      have hqe : (l.map rPl)[((j : Nat) : Int).toNat]? = some (rPl u) := by simp [hqj]
      have hF := refFits_ok h (i : Int) p.v (j : Int) u.v
      cases hb : fitsB c i p.v j u.v
      · rw [hb] at hF
        refine Tr.drawn ( zD tab_ok rfl rfl <| zD tab_ok rfl rfl <| zD tab_ok rfl rfl <| zD tab_ok rfl rfl <| zO rfl (fun q K hK => zI (x := rPl p) tab_ok rfl (by omega) (hpe) rfl (zN hK)) <| zD tab_ok rfl rfl <| zD tab_ok rfl rfl <| zD tab_ok rfl rfl <| zD tab_ok rfl rfl <| zD tab_ok rfl rfl <| zO rfl (fun q K hK => zI (x := rPl u) tab_ok rfl (by omega) (hqe) rfl (zN hK)) <| zD tab_ok rfl rfl <| zD tab_ok rfl rfl <| DSq.call rfl (fun _ => rfl) (hF) <| zD tab_ok rfl rfl <| DSq.nil _) mix_ok rfl ?_
        repeat' (first|refine zS ?_|refine zR ?_|refine zE tab_ok rfl rfl ?_|refine zN ?_|(refine zG rfl rfl (fun _ => ?_) fun _ => ?_)<;>refine zE tab_ok rfl rfl ?_|(refine zC rfl (fun _ => ?_) fun _ => ?_)<;>try (rename_i h; cases h; done)|refine zB ?_|refine zK ?_|refine zZ ⟨_, rfl, ?_⟩)
        have : goodB c l = false := by
          rw [hG, ← Bool.not_eq_true, List.all_eq_true]
          intro hh
          have := hh i (List.mem_range.2 hlt)
          unfold goodAt at this
          rw [hpi] at this
          simp only [Bool.and_eq_true, List.all_eq_true] at this
          have := this.2 j (List.mem_range.2 hj2)
          rw [hqj] at this
          simp only at this
          rw [hb] at this; cases this
        rw [this]
      · rw [hb] at hF
        refine Tr.drawn ( zD tab_ok rfl rfl <| zD tab_ok rfl rfl <| zD tab_ok rfl rfl <| zD tab_ok rfl rfl <| zO rfl (fun q K hK => zI (x := rPl p) tab_ok rfl (by omega) (hpe) rfl (zN hK)) <| zD tab_ok rfl rfl <| zD tab_ok rfl rfl <| zD tab_ok rfl rfl <| zD tab_ok rfl rfl <| zD tab_ok rfl rfl <| zO rfl (fun q K hK => zI (x := rPl u) tab_ok rfl (by omega) (hqe) rfl (zN hK)) <| zD tab_ok rfl rfl <| zD tab_ok rfl rfl <| DSq.call rfl (fun _ => rfl) (hF) <| zD tab_ok rfl rfl <| DSq.nil _) mix_ok rfl ?_
        repeat' (first|refine zS ?_|refine zR ?_|refine zE tab_ok rfl rfl ?_|refine zN ?_|(refine zG rfl rfl (fun _ => ?_) fun _ => ?_)<;>refine zE tab_ok rfl rfl ?_|(refine zC rfl (fun _ => ?_) fun _ => ?_)<;>try (rename_i h; cases h; done)|refine zB ?_|refine zK ?_|refine zZ ⟨_, rfl, ?_⟩)
        exact ⟨j + 1, ⟨by omega, fun k q' hk hq' => by
          rcases Nat.lt_succ_iff_lt_or_eq.1 hk with h4 | rfl
          · exact hr k q' h4 hq'
          · rw [hqj] at hq'; obtain rfl := Option.some.inj hq'; exact hb⟩, by omega, Sub.app (l := [_, _, _, _, _]) (H := []) ⟨rfl, rfl, rfl, rfl, congrArg some (wrapz (by omega) (by omega) (by omega)), trivial⟩ (fun κ v h => nomatch h)⟩
    · rename_i h4
      have : j = i := by have := of_decide_eq_false h4; omega
      subst this
      refine Tr.exit ?_
      repeat' (first|refine zS ?_|refine zR ?_|refine zE tab_ok rfl rfl ?_|refine zN ?_|(refine zG rfl rfl (fun _ => ?_) fun _ => ?_)<;>refine zE tab_ok rfl rfl ?_|(refine zC rfl (fun _ => ?_) fun _ => ?_)<;>try (rename_i h; cases h; done)|refine zB ?_|refine zK ?_|refine zZ ⟨_, rfl, ?_⟩)
      exact ⟨j + 1, ⟨by omega, fun k p' j' q' hk hp' hj' hq' => by
        rcases Nat.lt_succ_iff_lt_or_eq.1 hk with h4 | rfl
        · exact hq k p' j' q' h4 hp' hj' hq'
        · rw [hpi] at hp'; obtain rfl := Option.some.inj hp'; exact hr j' q' hj' hq'⟩, by omega, Sub.app (l := [_, _, _, _]) (H := []) ⟨rfl, rfl, rfl, congrArg some (wrapz (by omega) (by omega) (by omega)), trivial⟩ (fun κ v h => nomatch h)⟩
  · rename_i h3
    have : i = l.length := by simp only [List.length_map, decide_eq_false_iff_not] at h3; omega
    subst this
    refine Tr.exit ?_
    repeat' (first|refine zS ?_|refine zR ?_|refine zE tab_ok rfl rfl ?_|refine zN ?_|(refine zG rfl rfl (fun _ => ?_) fun _ => ?_)<;>refine zE tab_ok rfl rfl ?_|(refine zC rfl (fun _ => ?_) fun _ => ?_)<;>try (rename_i h; cases h; done)|refine zB ?_|refine zK ?_|refine zZ ⟨_, rfl, ?_⟩)
    have : goodB c l = true := by
      rw [hG, List.all_eq_true]
      intro k hk
      have hk := List.mem_range.1 hk
      obtain ⟨p, hpk⟩ : ∃ p, l[k]? = some p := ⟨_, List.getElem?_eq_getElem hk⟩
      unfold goodAt
      rw [hpk]
      simp only [Bool.and_eq_true, List.all_eq_true]
      refine ⟨hp k p hk hpk, fun j hj => ?_⟩
      have hj := List.mem_range.1 hj
      obtain ⟨q, hqj⟩ : ∃ p, l[j]? = some p := ⟨_, List.getElem?_eq_getElem (by omega)⟩
      rw [hqj]
      exact hq k p j q hk hpk hj hqj
    rw [this]
end Go.Lg.Tryz

set_option linter.unusedVariables false
set_option linter.unusedSimpArgs false
namespace Go.Lg.Tryz
open Go Go.Proofs Go.RowKit Go.Lib Go.Lg.Sem
theorem Released_ok {c : Ctl} (hc : c.length ≤ 1000000) (vs : List Int) : Fn Tryz.prog Gw 30 [.tr (ctlT c), .tr (.ls (vs.map intT))] [] (· = bool (rightV c vs)) := by
  by_cases hlc : vs.length ≠ c.length
  · have : rightV c vs = false := by unfold rightV; rw [decide_eq_false hlc]; rfl
    rw [this]
    refine Fn.of tab_ok Tryz.func30 rfl (by decide) (by simp [Tryz.f30]) rfl (fun κ v h => by cases h) Gw.below ?_
    repeat' (first|refine zS ?_|refine zR ?_|refine zE tab_ok rfl rfl ?_|refine zN ?_|(refine zG rfl rfl (fun _ => ?_) fun _ => ?_)<;>refine zE tab_ok rfl rfl ?_|(refine zC rfl (fun _ => ?_) fun _ => ?_)<;>try (rename_i h; cases h; done)|refine zB ?_|refine zK ?_|refine zZ ⟨_, rfl, ?_⟩)
    · rfl
    · rename_i h; exfalso
      have h : (((vs.map intT).length : Int) != ((c.map svcT).length : Int)) = false := h
      rw [List.length_map, List.length_map] at h
      simp at h; omega
  have hlc : vs.length = c.length := Classical.not_not.1 hlc
  have hR : rightV c vs = (List.range vs.length).all (okAt c vs) := by unfold rightV; rw [decide_eq_true hlc]; rfl
  refine Fn.of tab_ok Tryz.func30 rfl (by decide) (by simp [Tryz.f30]) rfl (fun κ v h => by cases h) Gw.below ?_
  repeat' (first|refine zS ?_|refine zR ?_|refine zE tab_ok rfl rfl ?_|refine zN ?_|(refine zG rfl rfl (fun _ => ?_) fun _ => ?_)<;>refine zE tab_ok rfl rfl ?_|(refine zC rfl (fun _ => ?_) fun _ => ?_)<;>try (rename_i h; cases h; done)|refine zB ?_|refine zK ?_|refine zZ ⟨_, rfl, ?_⟩)
  · rename_i h; exfalso
    have h : (((vs.map intT).length : Int) != ((c.map svcT).length : Int)) = true := h
    rw [List.length_map, List.length_map] at h
    simp at h; omega
  refine Tr.loopS (fun i : Nat => [(.s 1, .tr (.ls (vs.map intT))), (.s 2, .ptr (.l 2) 0), (.l 2, .blk 29 [.tr (.ls (c.map svcT))]), (.s 5, int i)]) (fun i => vs.length - i)
    (fun i => i ≤ vs.length ∧ (List.range i).all (okAt c vs) = true) 0 ⟨by omega, rfl⟩ (Sub.app (l := [_, _, _, _]) (H := []) ⟨rfl, rfl, rfl, rfl, trivial⟩ (fun κ v h => nomatch h)) ?_
  rintro i ⟨hi, hp⟩
  repeat' (first|refine zS ?_|refine zR ?_|refine zE tab_ok rfl rfl ?_|refine zN ?_|(refine zG rfl rfl (fun _ => ?_) fun _ => ?_)<;>refine zE tab_ok rfl rfl ?_|(refine zC rfl (fun _ => ?_) fun _ => ?_)<;>try (rename_i h; cases h; done)|refine zB ?_|refine zK ?_|refine zZ ⟨_, rfl, ?_⟩)
  · rename_i h2
    have hlt : i < vs.length := by simp only [List.length_map, decide_eq_true_eq] at h2; omega
    obtain ⟨v, hv⟩ : ∃ p, vs[i]? = some p := ⟨_, List.getElem?_eq_getElem hlt⟩
    obtain ⟨s, hs⟩ : ∃ p, c[i]? = some p := ⟨_, List.getElem?_eq_getElem (by omega)⟩
    have hve : (vs.map intT)[((i : Nat) : Int).toNat]? = some (intT v) := by simp [hv]
    have hse : (c.map svcT)[((i : Nat) : Int).toNat]? = some (svcT s) := by simp [hs]
    have hsi : c[((i : Nat) : Int).toNat]? = some s := by simpa using hs
    have hok : okAt c vs i = (relAt c i v).isSome := by unfold okAt; rw [hv]
    have bad : okAt c vs i = false → rightV c vs = false := fun hb => by
      rw [hR, ← Bool.not_eq_true, List.all_eq_true]
      intro hh
      rw [hh i (List.mem_range.2 hlt)] at hb; cases hb
    by_cases h3 : v < 0
    · have d3 : decide (v < 0) = true := decide_eq_true h3
      rw [bad (by rw [hok, relAt_neg h3]; rfl)]
      refine Tr.drawn ( zD tab_ok rfl rfl <| zD tab_ok rfl rfl <| zO rfl (fun q K hK => zI (x := intT v) tab_ok rfl (by omega) (hve) rfl (zN hK)) <| zD tab_ok rfl rfl <| DSq.evr tab_ok rfl (congrArg bool d3) <| zD tab_ok rfl rfl <| zD tab_ok rfl rfl <| zD tab_ok rfl rfl <| zD tab_ok rfl rfl <| zD tab_ok rfl rfl <| zD tab_ok rfl rfl <| zD tab_ok rfl rfl <| zD tab_ok rfl rfl <| zD tab_ok rfl rfl <| zD tab_ok rfl rfl <| zD tab_ok rfl rfl <| zD tab_ok rfl rfl <| zD tab_ok rfl rfl <| zD tab_ok rfl rfl <| DSq.nil _) mix_ok rfl ?_
      repeat' (first|refine zS ?_|refine zR ?_|refine zE tab_ok rfl rfl ?_|refine zN ?_|(refine zG rfl rfl (fun _ => ?_) fun _ => ?_)<;>refine zE tab_ok rfl rfl ?_|(refine zC rfl (fun _ => ?_) fun _ => ?_)<;>try (rename_i h; cases h; done)|refine zB ?_|refine zK ?_|refine zZ ⟨_, rfl, ?_⟩)
      rfl
    have d3 : decide (v < 0) = false := decide_eq_false h3
    by_cases h4 : v ≥ ((s.rels.map rlsT).length : Int)
    · have d4 : decide (v ≥ ((s.rels.map rlsT).length : Int)) = true := decide_eq_true h4
      rw [bad (by rw [hok, relAt_pos hsi (by omega), List.getElem?_eq_none (by rw [List.length_map] at h4; omega)]; rfl)]
      refine Tr.drawn ( zD tab_ok rfl rfl <| zD tab_ok rfl rfl <| zO rfl (fun q K hK => zI (x := intT v) tab_ok rfl (by omega) (hve) rfl (zN hK)) <| zD tab_ok rfl rfl <| DSq.evr tab_ok rfl (congrArg bool d3) <| zD tab_ok rfl rfl <| zD tab_ok rfl rfl <| zD tab_ok rfl rfl <| zO rfl (fun q K hK => zI (x := intT v) tab_ok rfl (by omega) (hve) rfl (zN hK)) <| zD tab_ok rfl rfl <| zD tab_ok rfl rfl <| zD tab_ok rfl rfl <| zD tab_ok rfl rfl <| zO rfl (fun q K hK => zI (x := svcT s) tab_ok rfl (by omega) (hse) rfl (zN hK)) <| zD tab_ok rfl rfl <| zD tab_ok rfl rfl <| zD tab_ok rfl rfl <| DSq.evr tab_ok rfl (congrArg bool d4) <| zD tab_ok rfl rfl <| DSq.nil _) mix_ok rfl ?_
      repeat' (first|refine zS ?_|refine zR ?_|refine zE tab_ok rfl rfl ?_|refine zN ?_|(refine zG rfl rfl (fun _ => ?_) fun _ => ?_)<;>refine zE tab_ok rfl rfl ?_|(refine zC rfl (fun _ => ?_) fun _ => ?_)<;>try (rename_i h; cases h; done)|refine zB ?_|refine zK ?_|refine zZ ⟨_, rfl, ?_⟩)
      rfl
    · have d4 : decide (v ≥ ((s.rels.map rlsT).length : Int)) = false := decide_eq_false h4
      rw [List.length_map] at h4
      refine Tr.drawn ( zD tab_ok rfl rfl <| zD tab_ok rfl rfl <| zO rfl (fun q K hK => zI (x := intT v) tab_ok rfl (by omega) (hve) rfl (zN hK)) <| zD tab_ok rfl rfl <| DSq.evr tab_ok rfl (congrArg bool d3) <| zD tab_ok rfl rfl <| zD tab_ok rfl rfl <| zD tab_ok rfl rfl <| zO rfl (fun q K hK => zI (x := intT v) tab_ok rfl (by omega) (hve) rfl (zN hK)) <| zD tab_ok rfl rfl <| zD tab_ok rfl rfl <| zD tab_ok rfl rfl <| zD tab_ok rfl rfl <| zO rfl (fun q K hK => zI (x := svcT s) tab_ok rfl (by omega) (hse) rfl (zN hK)) <| zD tab_ok rfl rfl <| zD tab_ok rfl rfl <| zD tab_ok rfl rfl <| DSq.evr tab_ok rfl (congrArg bool d4) <| zD tab_ok rfl rfl <| DSq.nil _) mix_ok rfl ?_
      repeat' (first|refine zS ?_|refine zR ?_|refine zE tab_ok rfl rfl ?_|refine zN ?_|(refine zG rfl rfl (fun _ => ?_) fun _ => ?_)<;>refine zE tab_ok rfl rfl ?_|(refine zC rfl (fun _ => ?_) fun _ => ?_)<;>try (rename_i h; cases h; done)|refine zB ?_|refine zK ?_|refine zZ ⟨_, rfl, ?_⟩)
      exact ⟨i + 1, ⟨by omega, by
        rw [List.range_succ, List.all_append, hp]
        simp only [List.all_cons, List.all_nil, Bool.and_true, Bool.true_and]
        rw [hok, relAt_pos hsi (by omega), List.getElem?_eq_getElem (by omega)]; rfl⟩, by omega, Sub.app (l := [_, _, _, _]) (H := []) ⟨rfl, rfl, rfl, congrArg some (wrapz (by omega) (by omega) (by omega)), trivial⟩ (fun κ v h => nomatch h)⟩
  · rename_i h2
    have : i = vs.length := by simp only [List.length_map, decide_eq_false_iff_not] at h2; omega
    subst this
    refine Tr.exit ?_
    repeat' (first|refine zS ?_|refine zR ?_|refine zE tab_ok rfl rfl ?_|refine zN ?_|(refine zG rfl rfl (fun _ => ?_) fun _ => ?_)<;>refine zE tab_ok rfl rfl ?_|(refine zC rfl (fun _ => ?_) fun _ => ?_)<;>try (rename_i h; cases h; done)|refine zB ?_|refine zK ?_|refine zZ ⟨_, rfl, ?_⟩)
    rw [hR, hp]
theorem pls_r (c : Ctl) (vs : List Int) : (pls c vs).map rPl = (List.range vs.length).map (pAt c vs) := by
  unfold pls
  rw [List.map_map]
  apply List.map_congr_left
  intro i _
  show rPl (plAt c vs i) = pAt c vs i
  unfold plAt pAt
  cases vs[i]? with
  | none => rfl
  | some v =>
    simp only
    cases relAt c i v <;> rfl
set_option maxRecDepth 8192 in
theorem refEnds_ok {c : Ctl} (hok : Ctl.ok c) (hc : c.length ≤ 1000000) (hlv : LvOk c) (f t : List Int) :
    Fn Tryz.prog Gw 17 [.tr (ctlT c), .tr (.ls (f.map intT)), .tr (.ls (t.map intT))] [] (· = int (endsV c f t)) := by
  have hA := Released_ok hc f
  have hB := Released_ok hc t
  unfold endsV
  cases hf : rightV c f
  · rw [hf] at hA
    rw [if_pos (.inl rfl)]
    refine Fn.of tab_ok Tryz.func17 rfl (by decide) (by simp [Tryz.f17]) rfl (fun κ v h => by cases h) Gw.below ?_
    repeat' (first|refine zS ?_|refine zR ?_|refine zE tab_ok rfl rfl ?_|refine zN ?_|(refine zG rfl rfl (fun _ => ?_) fun _ => ?_)<;>refine zE tab_ok rfl rfl ?_|(refine zC rfl (fun _ => ?_) fun _ => ?_)<;>try (rename_i h; cases h; done)|refine zB ?_|refine zK ?_|refine zZ ⟨_, rfl, ?_⟩)
    refine Sq.callv rfl (hA) ?_
    repeat' (first|refine zS ?_|refine zR ?_|refine zE tab_ok rfl rfl ?_|refine zN ?_|(refine zG rfl rfl (fun _ => ?_) fun _ => ?_)<;>refine zE tab_ok rfl rfl ?_|(refine zC rfl (fun _ => ?_) fun _ => ?_)<;>try (rename_i h; cases h; done)|refine zB ?_|refine zK ?_|refine zZ ⟨_, rfl, ?_⟩)
    rfl
  rw [hf] at hA
  cases ht : rightV c t
  · rw [ht] at hB
    rw [if_pos (.inr rfl)]
    refine Fn.of tab_ok Tryz.func17 rfl (by decide) (by simp [Tryz.f17]) rfl (fun κ v h => by cases h) Gw.below ?_
    repeat' (first|refine zS ?_|refine zR ?_|refine zE tab_ok rfl rfl ?_|refine zN ?_|(refine zG rfl rfl (fun _ => ?_) fun _ => ?_)<;>refine zE tab_ok rfl rfl ?_|(refine zC rfl (fun _ => ?_) fun _ => ?_)<;>try (rename_i h; cases h; done)|refine zB ?_|refine zK ?_|refine zZ ⟨_, rfl, ?_⟩)
    refine Sq.callv rfl (hA) ?_
    repeat' (first|refine zS ?_|refine zR ?_|refine zE tab_ok rfl rfl ?_|refine zN ?_|(refine zG rfl rfl (fun _ => ?_) fun _ => ?_)<;>refine zE tab_ok rfl rfl ?_|(refine zC rfl (fun _ => ?_) fun _ => ?_)<;>try (rename_i h; cases h; done)|refine zB ?_|refine zK ?_|refine zZ ⟨_, rfl, ?_⟩)
    refine Sq.callv rfl (hB) ?_
    repeat' (first|refine zS ?_|refine zR ?_|refine zE tab_ok rfl rfl ?_|refine zN ?_|(refine zG rfl rfl (fun _ => ?_) fun _ => ?_)<;>refine zE tab_ok rfl rfl ?_|(refine zC rfl (fun _ => ?_) fun _ => ?_)<;>try (rename_i h; cases h; done)|refine zB ?_|refine zK ?_|refine zZ ⟨_, rfl, ?_⟩)
    rfl
  rw [ht] at hB
  rw [if_neg (by simp)]
  have hSf := refSettled_ok hc hlv f hf
  have hSt := refSettled_ok hc hlv t ht
  rw [← pls_r] at hSf hSt
  have hG := refGood_ok hok hlv hc (pls c f)
  have hG2 := refGood_ok hok hlv hc (pls c t)
  cases hg : goodB c (pls c f)
  · rw [hg] at hG
    rw [if_pos (.inl rfl)]
    generalize (pls c f).map rPl = L1 at *
    refine Fn.of tab_ok Tryz.func17 rfl (by decide) (by simp [Tryz.f17]) rfl (fun κ v h => by cases h) Gw.below ?_
    repeat' (first|refine zS ?_|refine zR ?_|refine zE tab_ok rfl rfl ?_|refine zN ?_|(refine zG rfl rfl (fun _ => ?_) fun _ => ?_)<;>refine zE tab_ok rfl rfl ?_|(refine zC rfl (fun _ => ?_) fun _ => ?_)<;>try (rename_i h; cases h; done)|refine zB ?_|refine zK ?_|refine zZ ⟨_, rfl, ?_⟩)
    refine Sq.callv rfl (hA) ?_
    repeat' (first|refine zS ?_|refine zR ?_|refine zE tab_ok rfl rfl ?_|refine zN ?_|(refine zG rfl rfl (fun _ => ?_) fun _ => ?_)<;>refine zE tab_ok rfl rfl ?_|(refine zC rfl (fun _ => ?_) fun _ => ?_)<;>try (rename_i h; cases h; done)|refine zB ?_|refine zK ?_|refine zZ ⟨_, rfl, ?_⟩)
    refine Sq.callv rfl (hB) ?_
    repeat' (first|refine zS ?_|refine zR ?_|refine zE tab_ok rfl rfl ?_|refine zN ?_|(refine zG rfl rfl (fun _ => ?_) fun _ => ?_)<;>refine zE tab_ok rfl rfl ?_|(refine zC rfl (fun _ => ?_) fun _ => ?_)<;>try (rename_i h; cases h; done)|refine zB ?_|refine zK ?_|refine zZ ⟨_, rfl, ?_⟩)
    refine Tr.drawn ( zD tab_ok rfl rfl <| zD tab_ok rfl rfl <| zD tab_ok rfl rfl <| DSq.call rfl (fun _ => rfl) (hSf) <| DSq.call rfl (fun _ => rfl) (hG) <| zD tab_ok rfl rfl <| zD tab_ok rfl rfl <| zD tab_ok rfl rfl <| zD tab_ok rfl rfl <| zD tab_ok rfl rfl <| zD tab_ok rfl rfl <| zD tab_ok rfl rfl <| zD tab_ok rfl rfl <| zD tab_ok rfl rfl <| DSq.nil _) mix_ok rfl ?_
    repeat' (first|refine zS ?_|refine zR ?_|refine zE tab_ok rfl rfl ?_|refine zN ?_|(refine zG rfl rfl (fun _ => ?_) fun _ => ?_)<;>refine zE tab_ok rfl rfl ?_|(refine zC rfl (fun _ => ?_) fun _ => ?_)<;>try (rename_i h; cases h; done)|refine zB ?_|refine zK ?_|refine zZ ⟨_, rfl, ?_⟩)
    rfl
  rw [hg] at hG
  cases hg2 : goodB c (pls c t)
  · rw [hg2] at hG2
    rw [if_pos (.inr rfl)]
    generalize (pls c f).map rPl = L1 at *
    generalize (pls c t).map rPl = L2 at *
    refine Fn.of tab_ok Tryz.func17 rfl (by decide) (by simp [Tryz.f17]) rfl (fun κ v h => by cases h) Gw.below ?_
    repeat' (first|refine zS ?_|refine zR ?_|refine zE tab_ok rfl rfl ?_|refine zN ?_|(refine zG rfl rfl (fun _ => ?_) fun _ => ?_)<;>refine zE tab_ok rfl rfl ?_|(refine zC rfl (fun _ => ?_) fun _ => ?_)<;>try (rename_i h; cases h; done)|refine zB ?_|refine zK ?_|refine zZ ⟨_, rfl, ?_⟩)
    refine Sq.callv rfl (hA) ?_
    repeat' (first|refine zS ?_|refine zR ?_|refine zE tab_ok rfl rfl ?_|refine zN ?_|(refine zG rfl rfl (fun _ => ?_) fun _ => ?_)<;>refine zE tab_ok rfl rfl ?_|(refine zC rfl (fun _ => ?_) fun _ => ?_)<;>try (rename_i h; cases h; done)|refine zB ?_|refine zK ?_|refine zZ ⟨_, rfl, ?_⟩)
    refine Sq.callv rfl (hB) ?_
    repeat' (first|refine zS ?_|refine zR ?_|refine zE tab_ok rfl rfl ?_|refine zN ?_|(refine zG rfl rfl (fun _ => ?_) fun _ => ?_)<;>refine zE tab_ok rfl rfl ?_|(refine zC rfl (fun _ => ?_) fun _ => ?_)<;>try (rename_i h; cases h; done)|refine zB ?_|refine zK ?_|refine zZ ⟨_, rfl, ?_⟩)
    refine Tr.drawn ( zD tab_ok rfl rfl <| zD tab_ok rfl rfl <| zD tab_ok rfl rfl <| DSq.call rfl (fun _ => rfl) (hSf) <| DSq.call rfl (fun _ => rfl) (hG) <| zD tab_ok rfl rfl <| zD tab_ok rfl rfl <| zD tab_ok rfl rfl <| zD tab_ok rfl rfl <| zD tab_ok rfl rfl <| DSq.call rfl (fun _ => rfl) (hSt) <| DSq.call rfl (fun _ => rfl) (hG2) <| zD tab_ok rfl rfl <| zD tab_ok rfl rfl <| DSq.nil _) mix_ok rfl ?_
    repeat' (first|refine zS ?_|refine zR ?_|refine zE tab_ok rfl rfl ?_|refine zN ?_|(refine zG rfl rfl (fun _ => ?_) fun _ => ?_)<;>refine zE tab_ok rfl rfl ?_|(refine zC rfl (fun _ => ?_) fun _ => ?_)<;>try (rename_i h; cases h; done)|refine zB ?_|refine zK ?_|refine zZ ⟨_, rfl, ?_⟩)
    rfl
  rw [hg2] at hG2
  rw [if_neg (by simp)]
  obtain ⟨hfl, hfa⟩ := rightV_at hf
  obtain ⟨htl, hta⟩ := rightV_at ht
  generalize (pls c f).map rPl = L1 at *
  generalize (pls c t).map rPl = L2 at *
  refine Fn.of tab_ok Tryz.func17 rfl (by decide) (by simp [Tryz.f17]) rfl (fun κ v h => by cases h) Gw.below ?_
  repeat' (first|refine zS ?_|refine zR ?_|refine zE tab_ok rfl rfl ?_|refine zN ?_|(refine zG rfl rfl (fun _ => ?_) fun _ => ?_)<;>refine zE tab_ok rfl rfl ?_|(refine zC rfl (fun _ => ?_) fun _ => ?_)<;>try (rename_i h; cases h; done)|refine zB ?_|refine zK ?_|refine zZ ⟨_, rfl, ?_⟩)
  refine Sq.callv rfl (hA) ?_
  repeat' (first|refine zS ?_|refine zR ?_|refine zE tab_ok rfl rfl ?_|refine zN ?_|(refine zG rfl rfl (fun _ => ?_) fun _ => ?_)<;>refine zE tab_ok rfl rfl ?_|(refine zC rfl (fun _ => ?_) fun _ => ?_)<;>try (rename_i h; cases h; done)|refine zB ?_|refine zK ?_|refine zZ ⟨_, rfl, ?_⟩)
  refine Sq.callv rfl (hB) ?_
  repeat' (first|refine zS ?_|refine zR ?_|refine zE tab_ok rfl rfl ?_|refine zN ?_|(refine zG rfl rfl (fun _ => ?_) fun _ => ?_)<;>refine zE tab_ok rfl rfl ?_|(refine zC rfl (fun _ => ?_) fun _ => ?_)<;>try (rename_i h; cases h; done)|refine zB ?_|refine zK ?_|refine zZ ⟨_, rfl, ?_⟩)
  refine Tr.drawn ( zD tab_ok rfl rfl <| zD tab_ok rfl rfl <| zD tab_ok rfl rfl <| DSq.call rfl (fun _ => rfl) (hSf) <| DSq.call rfl (fun _ => rfl) (hG) <| zD tab_ok rfl rfl <| zD tab_ok rfl rfl <| zD tab_ok rfl rfl <| zD tab_ok rfl rfl <| zD tab_ok rfl rfl <| DSq.call rfl (fun _ => rfl) (hSt) <| DSq.call rfl (fun _ => rfl) (hG2) <| zD tab_ok rfl rfl <| zD tab_ok rfl rfl <| DSq.nil _) mix_ok rfl ?_
  repeat' (first|refine zS ?_|refine zR ?_|refine zE tab_ok rfl rfl ?_|refine zN ?_|(refine zG rfl rfl (fun _ => ?_) fun _ => ?_)<;>refine zE tab_ok rfl rfl ?_|(refine zC rfl (fun _ => ?_) fun _ => ?_)<;>try (rename_i h; cases h; done)|refine zB ?_|refine zK ?_|refine zZ ⟨_, rfl, ?_⟩)
  refine Tr.loopS (fun i : Nat => [(.s 1, .tr (.ls (f.map intT))), (.s 2, .tr (.ls (t.map intT))), (.s 3, .ptr (.l 3) 0), (.l 3, .blk 29 [.tr (.ls (c.map svcT))]), (.s 7, int i)]) (fun i => f.length - i) (fun i => i ≤ f.length ∧ ∀ k, k < i → (decide (riseV c f t k < 0) || decide (riseV c f t k > 1)) = false)
    0 ⟨by omega, by intro b hb; omega⟩ (Sub.app (l := [_, _, _, _, _]) (H := []) ⟨rfl, rfl, rfl, rfl, rfl, trivial⟩ (fun κ v h => nomatch h)) ?_
  rintro i ⟨hi, hno⟩
  repeat' (first|refine zS ?_|refine zR ?_|refine zE tab_ok rfl rfl ?_|refine zN ?_|(refine zG rfl rfl (fun _ => ?_) fun _ => ?_)<;>refine zE tab_ok rfl rfl ?_|(refine zC rfl (fun _ => ?_) fun _ => ?_)<;>try (rename_i h; cases h; done)|refine zB ?_|refine zK ?_|refine zZ ⟨_, rfl, ?_⟩)
  · rename_i h2
    have h2 : decide ((i : Int) < ((f.map intT).length : Int)) = true := h2
    have hlt : i < f.length := by simp only [List.length_map, decide_eq_true_eq] at h2; omega
    obtain ⟨v, s, r, hv, hs, hv0, hr, hrel⟩ := hfa i hlt
    obtain ⟨w, s', g, hw, hs', hw0, hq, hqel⟩ := hta i (by omega)
    obtain rfl : s = s' := by rw [hs] at hs'; exact Option.some.inj hs'
    obtain ⟨l0, l1⟩ := (hlv s (List.mem_of_getElem? hs)).2 r (List.mem_of_getElem? hr)
    obtain ⟨m0, m1⟩ := (hlv s (List.mem_of_getElem? hs)).2 g (List.mem_of_getElem? hq)
    have hve : (f.map intT)[((i : Nat) : Int).toNat]? = some (intT v) := by simp [hv]
    have hwe : (t.map intT)[((i : Nat) : Int).toNat]? = some (intT w) := by simp [hw]
    have hse : (c.map svcT)[((i : Nat) : Int).toNat]? = some (svcT s) := by simp [hs]
    have hre : (s.rels.map rlsT)[v.toNat]? = some (rlsT r) := by simp [hr]
    have hqe : (s.rels.map rlsT)[w.toNat]? = some (rlsT g) := by simp [hq]
    have hrise : riseV c f t i = g.level - r.level := by unfold riseV lvl; rw [vAt_of hv, vAt_of hw, hrel, hqel]
    refine Tr.drawn ( zD tab_ok rfl rfl <| zD tab_ok rfl rfl <| zD tab_ok rfl rfl <| zO rfl (fun q K hK => zI (x := svcT s) tab_ok rfl (by omega) (hse) rfl (zN hK)) <| zD tab_ok rfl rfl <| zD tab_ok rfl rfl <| zD tab_ok rfl rfl <| zD tab_ok rfl rfl <| zO rfl (fun q K hK => zI (x := intT w) tab_ok rfl (by omega) (hwe) rfl (zN hK)) <| zD tab_ok rfl rfl <| zO rfl (fun q K hK => zI (x := rlsT g) tab_ok rfl (by omega) (hqe) rfl (zN hK)) <| zD tab_ok rfl rfl <| zD tab_ok rfl rfl <| zD tab_ok rfl rfl <| zD tab_ok rfl rfl <| zD tab_ok rfl rfl <| zO rfl (fun q K hK => zI (x := svcT s) tab_ok rfl (by omega) (hse) rfl (zN hK)) <| zD tab_ok rfl rfl <| zD tab_ok rfl rfl <| zD tab_ok rfl rfl <| zD tab_ok rfl rfl <| zO rfl (fun q K hK => zI (x := intT v) tab_ok rfl (by omega) (hve) rfl (zN hK)) <| zD tab_ok rfl rfl <| zO rfl (fun q K hK => zI (x := rlsT r) tab_ok rfl (by omega) (hre) rfl (zN hK)) <| zD tab_ok rfl rfl <| zD tab_ok rfl rfl <| DSq.evr tab_ok rfl (congrArg int (Go.IntWalk.i64_in (g.level - r.level) ⟨by omega, by omega⟩)) <| zD tab_ok rfl rfl <| DSq.nil _) mix_ok rfl ?_
    have hany : ∀ z, riseV c f t i = z → (decide (z < 0) || decide (z > 1)) = true → ((List.range f.length).any fun i => decide (riseV c f t i < 0) || decide (riseV c f t i > 1)) = true := fun z hz h => List.any_eq_true.2 ⟨i, List.mem_range.2 hlt, by rw [hz]; exact h⟩
    have hnx : ∀ z, riseV c f t i = z → (decide (z < 0) || decide (z > 1)) = false → ∀ k, k < i + 1 → (decide (riseV c f t k < 0) || decide (riseV c f t k > 1)) = false := fun z hz h k hk => by
      rcases Nat.lt_succ_iff_lt_or_eq.1 hk with h3 | rfl
      · exact hno k h3
      · rw [hz]; exact h
    rw [← hrise]
    generalize hz : riseV c f t i = z at *
    repeat' (first|refine zS ?_|refine zR ?_|refine zE tab_ok rfl rfl ?_|refine zN ?_|(refine zG rfl rfl (fun _ => ?_) fun _ => ?_)<;>refine zE tab_ok rfl rfl ?_|(refine zC rfl (fun _ => ?_) fun _ => ?_)<;>try (rename_i h; cases h; done)|refine zB ?_|refine zK ?_|refine zZ ⟨_, rfl, ?_⟩)
    · rename_i h3 h4
      have h3 : (z != 0) = true := h3
      have h4 : (z != 1) = true := h4
      show int 43 = int _
      rw [if_pos (hany z rfl (by rw [bne_iff_ne] at h3 h4; rw [Bool.or_eq_true, decide_eq_true_eq, decide_eq_true_eq]; omega))]
    · rename_i h3 h4
      have h4 : (z != 1) = false := h4
      exact ⟨i + 1, ⟨by omega, hnx z rfl (by simp at h4; subst h4; rfl)⟩, by omega, Sub.app (l := [_, _, _, _, _]) (H := []) ⟨rfl, rfl, rfl, rfl, congrArg some (wrapz (by omega) (by omega) (by omega)), trivial⟩ (fun κ v h => nomatch h)⟩
    · rename_i h3 _
      have h3 : (z != 0) = false := h3
      exact ⟨i + 1, ⟨by omega, hnx z rfl (by simp at h3; subst h3; rfl)⟩, by omega, Sub.app (l := [_, _, _, _, _]) (H := []) ⟨rfl, rfl, rfl, rfl, congrArg some (wrapz (by omega) (by omega) (by omega)), trivial⟩ (fun κ v h => nomatch h)⟩
  · rename_i h2
    have h2 : decide ((i : Int) < ((f.map intT).length : Int)) = false := h2
    have : i = f.length := by simp only [List.length_map, decide_eq_false_iff_not] at h2; omega
    subst this
    refine Tr.exit ?_
    repeat' (first|refine zS ?_|refine zR ?_|refine zE tab_ok rfl rfl ?_|refine zN ?_|(refine zG rfl rfl (fun _ => ?_) fun _ => ?_)<;>refine zE tab_ok rfl rfl ?_|(refine zC rfl (fun _ => ?_) fun _ => ?_)<;>try (rename_i h; cases h; done)|refine zB ?_|refine zK ?_|refine zZ ⟨_, rfl, ?_⟩)
    show int 0 = int _
    rw [if_neg]
    intro h
    obtain ⟨k, hk, h⟩ := List.any_eq_true.1 h
    rw [hno k (List.mem_range.1 hk)] at h
    cases h
end Go.Lg.Tryz
