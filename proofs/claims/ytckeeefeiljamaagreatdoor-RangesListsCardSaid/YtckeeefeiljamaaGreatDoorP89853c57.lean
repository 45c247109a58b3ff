/- Words and laws that the theorem leans on (part 2). -/
import Derived.Test.YtckeeefeiljamaaGreatDoorP91203479
import Derived.Orders
import Derived.RangeFuncRecord
import Derived.Lib.ConvBytes
import Derived.Laws.Strings
import Derived.Laws.Small
import Derived.Laws.StructEq
set_option linter.unusedVariables false
set_option linter.unusedSimpArgs false

set_option linter.unusedVariables false
set_option linter.unusedSimpArgs false
namespace Go.Lg
open Go Go.RowKit
section
variable {P : Program} {G : Env} {n : Nat} {tab : Tab} {m : Store}
def evApp (tab : Tab) (n : Nat) (ops : List Oper) (o : Oper) (m : Store) : Option (TypeId × Nat × Nat × List T × List T × Nat) := match o.op, o.dst, gOk m ops o.guard with
  | .call ⟨.builtin .append, ⟨[x, y]⟩, ⟨[t, t']⟩⟩, some d, true => match Nat.blt d n, Nat.beq t t', tlk tab t with
    | true, true, some ⟨_, _, .slice e, _⟩ => match tlk tab e, opV m y with
      | some ⟨es, by', _, zs⟩, some yv => match Nat.beq zs.length es, Nat.ble 1 es, Nat.ble by' 131072, Nat.ble 1 by', lsOf yv with
        | true, true, true, true, some ys => match x with
          | .tmp s => match lk m (.s s) with
            | some (.own e' xs) => match Nat.beq e' e with
              | true => some (e, es, s, xs, ys, d)
              | false => none
            | _ => none
          | .const (.slice none 0 0) => some (e, es, d, [], ys, d)
          | _ => none
        | _, _, _, _, _ => none
      | _, _ => none
    | _, _, _ => none
  | _, _, _ => none
theorem Sq.append {ops l : List Oper} {o : Oper} {e es s d : Nat} {xs ys : List T} {K : Store → Prop} (hT : TabOk P tab) (h : evApp tab n ops o m = some (e, es, s, xs, ys, d)) (hys : ∀ y, y ∈ ys → y.cells.length = es) (hlen : xs.length + ys.length ≤ 1073741824)
    (k : Sq P G n ops l ((.s d, .own e (xs ++ ys)) :: (.s s, .unk) :: m) K) : Sq P G n ops (o :: l) m K := by
  obtain ⟨dst, op, type, pos, after, guard⟩ := o
  unfold evApp at h
  simp only at h
  split at h
  · rename_i x y t t' d' hgd
    split at h
    · rename_i e0 _ hlt htt ht
      split at h
      · rename_i es' by' kd zs yv he hyv
        split at h
        · rename_i ys' hz1 hz2 hz3 hz4 hls
          obtain rfl : t = t' := Nat.eq_of_beq_eq_true htt
          have hd : d' < n := Nat.lt_of_succ_le (Nat.le_of_ble_eq_true hlt)
          have hzl : zs.length = es' := Nat.eq_of_beq_eq_true hz1
          have hpos : 0 < es' := Nat.le_of_ble_eq_true hz2
          have hby : by' ≤ 131072 := Nat.le_of_ble_eq_true hz3
          have fin : ∀ {s0 : Nat} {xs0 : List T}, (e0, es', s0, xs0, ys', d') = (e, es, s, xs, ys, d) → (∀ (a : Act), ((lk m (.s s0) = some (.own e0 xs0) ∧ a.eval x = a.tmps.getD s0 undef) ∨ (xs0 = [] ∧ a.eval x = .slice none 0 0))) → Sq P G n ops (⟨some d', .call ⟨.builtin .append, ⟨[x, y]⟩, ⟨[t, t]⟩⟩, type, pos, after, guard⟩ :: l) m K := by
            intro s0 xs0 heq hb
            simp only [Prod.mk.injEq] at heq
            obtain ⟨rfl, rfl, rfl, rfl, rfl, rfl⟩ := heq
            refine Sq.do hgd (fun Γ M Ow a w hr => ?_) k
            obtain ⟨q, hq⟩ := opV_ok hyv hr
            have hq := deg_vrel hq
            rw [lsOf_eq hls] at hq
            have hrep : Rep w M (.ls ys') (a.eval y) := by cases hq with | tr _ _ h => exact h
            have hb' : (xs0.length + ys'.length) * by' ≤ 140737488355328 := by
              have := Nat.mul_le_mul hlen hby
              omega
            obtain ⟨v, w', h1, h2⟩ := append_run hT hr (dt := _) (de := ⟨es', by', kd, zs⟩) ht rfl he hpos hzl hd (ty := type) (hb a) hrep hys hb' (by omega)
            refine ⟨v, w', ?_, h2⟩
            simp [execOp, resolve, invoke, builtin, h1]
          split at h
          · rename_i s0
            split at h
            · rename_i e' xs0 hs0
              split at h
              · rename_i hee
                obtain rfl : e' = e0 := Nat.eq_of_beq_eq_true hee
                exact fin (Option.some.inj h) (fun a => .inl ⟨hs0, rfl⟩)
              · cases h
            · cases h
          · exact fin (Option.some.inj h) (fun a => .inr ⟨rfl, rfl⟩)
          · cases h
        · cases h
      · cases h
    · cases h
  · cases h
def scAll : List T → Option (List Value)
  | [] => some []
  | .sc c :: r => match scAll r with
    | some vs => some (c :: vs)
    | none => none
  | _ => none
def valO : AV → Option Value
  | .tr (.sc c) => some c
  | .tr (.ag ts) => match scAll ts with
    | some vs => some (.agg vs.toArray)
    | none => none
  | .tup xs => none
  | _ => none
theorem scAll_eq : ∀ {ts : List T} {vs : List Value}, scAll ts = some vs → ts = vs.map .sc
  | [], vs, h => by obtain rfl := Option.some.inj h; rfl
  | .sc c :: r, vs, h => by
    simp only [scAll] at h
    split at h
    · rename_i vs' e
      obtain rfl := Option.some.inj h
      rw [scAll_eq e]; rfl
    · cases h
  | .ls _ :: _, vs, h | .ag _ :: _, vs, h => by simp [scAll] at h
theorem valO_ok {v : AV} {c : Value} (h : valO v = some c) {w : World} {M : Nat → Nat → Prop} {Ow : Loc → Nat → Option Nat} {cv : Value} {o : Option Nat} (hv : SRel P w M Ow v cv o) : cv = c := by
  unfold valO at h
  split at h
  · obtain rfl := Option.some.inj h
    have hv : VRel w M (fun κ => Ow κ 0) (.tr (.sc _)) cv := hv
    cases hv with | tr _ _ h => cases h; rfl
  · rename_i ts
    split at h
    · rename_i vs e
      obtain rfl := Option.some.inj h
      have e' := scAll_eq e
      subst e'
      have hv : VRel w M (fun κ => Ow κ 0) (.tr (.ag (vs.map .sc))) cv := hv
      cases hv with
      | tr _ _ h =>
        cases h with
        | ag _ cs h1 h2 h3 =>
          congr 1
          apply Array.ext
          · simpa using h1
          · intro i hi hi'
            have hc : cs[i]? = some cs[i] := by simp [hi]
            have hvi : (vs.map T.sc)[i]? = some (.sc (vs[i]'(by simpa using hi'))) := by simp
            have key : ∀ {c u : Value}, Rep w M (.sc c) u → u = c := by intro c u h; cases h; rfl
            simpa using key (h3 i _ _ hvi hc)
    · cases h
  · cases h
  · cases h
def valsO (m : Store) : List Operand → Option (List Value)
  | [] => some []
  | x :: xs => match opV m x with
    | some v => match valO v with
      | some c => match valsO m xs with
        | some cs => some (c :: cs)
        | none => none
      | none => none
    | none => none
theorem valsO_ok {Γ : Ctx} {M : Nat → Nat → Prop} {Ow : Loc → Nat → Option Nat} {a : Act} {w : World} (hr : Rel P Γ M Ow n m a w) : ∀ {xs : List Operand} {cs : List Value}, valsO m xs = some cs → xs.map a.eval = cs
  | [], cs, h => by obtain rfl := Option.some.inj h; rfl
  | x :: xs, cs, h => by
    simp only [valsO] at h
    split at h
    · rename_i v e1
      split at h
      · rename_i c e2
        split at h
        · rename_i cs' e3
          obtain rfl := Option.some.inj h
          obtain ⟨o, ho⟩ := opV_ok e1 hr
          rw [List.map_cons, valO_ok e2 ho, valsO_ok hr e3]
        · cases h
      · cases h
    · cases h
theorem Sq.pure {ops l : List Oper} {o : Oper} {d : Nat} {cs : List Value} {u : Value} {K : Store → Prop} (hdst : o.dst = some d) (hlt : Nat.blt d n = true) (hg : gOk m ops o.guard = true) (hv : valsO m o.op.operands.toList = some cs)
    (h : ∀ a : Act, o.op.operands.toList.map a.eval = cs → ∀ w, (execOp a.eval o).run P w = .ok (.value u) w) (h1 : u.oneCell' = true) (k : Sq P G n ops l ((.s d, .tr (.sc u)) :: m) K) : Sq P G n ops (o :: l) m K := by
  refine Sq.do hg (fun Γ M Ow a w hr => ?_) k
  refine ⟨u, w, h a (valsO_ok hr hv) w, M, Ow, ?_⟩
  rw [hdst]
  exact hr.put (Nat.lt_of_succ_le (Nat.le_of_ble_eq_true hlt)) (.tr _ _ (.sc _ h1))
theorem Rep.part {w : World} {M : Nat → Nat → Prop} {xs : List T} {ad : Option Addr} {q cap : Nat} (h : Rep w M (.ls xs) (.slice ad q cap)) {es l hi : Nat} (hes : ∀ x, x ∈ xs → x.cells.length = es) (hl : l ≤ hi) (hhi : hi ≤ xs.length) :
    Rep w M (.ls ((xs.drop l).take (hi - l))) (.slice (if cap = l then ad else ad.map (·.add (l * es))) (hi - l) (cap - l)) := by
  by_cases e0 : hi = l
  · subst e0
    simp only [Nat.sub_self, List.take_zero]
    exact .nil _ _
  · have hlen : ((xs.drop l).take (hi - l)).length = hi - l := by simp; omega
    obtain ⟨ad', cap', e1, h' | ⟨b, off, es', e2, hes', f, f1, f2, f3, f4⟩⟩ := h.ls_inv
    · subst h'; simp at hhi; omega
    · injection e1 with e1 e3 e4
      subst e1; subst e3; subst e4; subst e2
      obtain rfl : es' = es := by
        cases xs with
        | nil => simp at hhi; omega
        | cons x xs => rw [← hes x (List.mem_cons_self ..), hes' x (List.mem_cons_self ..)]
      have hcap : xs.length ≤ cap := by
        cases h with
        | nil => simp at hhi; omega
        | ls _ _ _ _ _ _ h1 => exact h1
      rw [if_neg (by omega)]
      simp only [Option.map_some, add_lit]
      have := Rep.ls (w := w) (M := M) ((xs.drop l).take (hi - l)) b (off + l * es') es' (cap - l) (fun i j => f (l + i) j) (by omega) (fun x hx => hes' x (List.mem_of_mem_drop (List.mem_of_mem_take hx))) (by
        intro i j hi' hj
        have := f1 (l + i) j (by omega) hj
        rw [Nat.add_mul] at this
        rw [show off + l * es' + i * es' + j = off + (l * es' + i * es') + j by omega]; exact this) (by
        intro i j hi' hj
        have := f2 (l + i) j (by omega) hj
        rw [Nat.add_mul] at this
        rw [show off + l * es' + i * es' + j = off + (l * es' + i * es') + j by omega]; exact this) (by
        intro i j hi' hj; exact f3 (l + i) j (by omega) hj) (by
        intro i j x y hx hy
        rw [List.getElem?_take] at hx
        split at hx
        · rw [List.getElem?_drop] at hx; exact f4 (l + i) j x y hx hy
        · cases hx)
      rw [hlen] at this
      exact this
inductive Bd where
  | no
  | at (i : Int)
def bdO (m : Store) : Option Operand → Option Bd
  | none => some .no
  | some x => match opV m x with
    | some (.tr (.sc (.int _ i))) => some (.at i)
    | _ => none
def Bd.lo : Bd → Int
  | .no => 0
  | .at i => i
def Bd.hi (q : Nat) : Bd → Int
  | .no => q
  | .at i => i
def evSub (tab : Tab) (n : Nat) (ops : List Oper) (o : Oper) (m : Store) : Option (ByteArray × Bd × Bd × Nat) := match o.op, o.dst, gOk m ops o.guard with
  | .slice t x lo hi none, some d, true => match Nat.blt d n, tlk tab t with
    | true, some ⟨_, _, .str, _⟩ => match opV m x, bdO m lo, bdO m hi with
      | some (.tr (.sc (.string s))), some l, some h => some (s, l, h, d)
      | _, _, _ => none
    | _, _ => none
  | _, _, _ => none
theorem bdO_ok {x : Option Operand} {b : Bd} (h : bdO m x = some b) {Γ : Ctx} {M : Nat → Nat → Prop} {Ow : Loc → Nat → Option Nat} {a : Act} {w : World} (hr : Rel P Γ M Ow n m a w) : (b = .no ∧ x.map a.eval = none) ∨ ∃ k i, b = .at i ∧ x.map a.eval = some (.int k i) := by
  unfold bdO at h
  split at h
  · obtain rfl := Option.some.inj h; exact .inl ⟨rfl, rfl⟩
  · split at h
    · rename_i x' k i hv
      obtain rfl := Option.some.inj h
      obtain ⟨q, hq⟩ := opV_ok hv hr
      exact .inr ⟨k, i, rfl, by rw [Option.map_some, (sc_eval (Γ := Γ) hq).1]⟩
    · cases h
theorem run_bounds {w : World} {isSlice : Bool} {q cap : Nat} {lo hi : Option Value} {l h : Bd} (hl : (l = .no ∧ lo = none) ∨ ∃ k i, l = .at i ∧ lo = some (.int k i)) (hh : (h = .no ∧ hi = none) ∨ ∃ k i, h = .at i ∧ hi = some (.int k i))
    (h0 : 0 ≤ l.lo) (h1 : l.lo ≤ h.hi q) (h2 : h.hi q ≤ cap) (hq : q ≤ cap) : (Instr.sliceBounds isSlice q cap lo hi none).run P w = .ok (l.lo.toNat, (h.hi q).toNat, cap) w := by
  rcases hl with ⟨rfl, rfl⟩ | ⟨k, i, rfl, rfl⟩ <;> rcases hh with ⟨rfl, rfl⟩ | ⟨k', i', rfl, rfl⟩
  · simp [Instr.sliceBounds, Bd.lo, Bd.hi]
  · simp only [Bd.lo, Bd.hi] at h0 h1 h2 ⊢
    have e : 0 ≤ i' ∧ i' ≤ (cap : Int) := ⟨by omega, by omega⟩
    simp [Instr.sliceBounds, Instr.sliceBound, asIntOf, e]
  · simp only [Bd.lo, Bd.hi] at h0 h1 h2 ⊢
    have e : 0 ≤ i ∧ i ≤ (q : Int) := ⟨by omega, by omega⟩
    simp [Instr.sliceBounds, Instr.sliceBound, asIntOf, e]
  · simp only [Bd.lo, Bd.hi] at h0 h1 h2 ⊢
    have e : 0 ≤ i' ∧ i' ≤ (cap : Int) := ⟨by omega, by omega⟩
    have e' : 0 ≤ i ∧ i ≤ ((i'.toNat : Nat) : Int) := ⟨by omega, by omega⟩
    have e'' : i ≤ max i' 0 := by omega
    simp [Instr.sliceBounds, Instr.sliceBound, asIntOf, e, e', e'']
theorem Sq.substr {ops l : List Oper} {o : Oper} {s : ByteArray} {lo hi : Bd} {d : Nat} {K : Store → Prop} (hT : TabOk P tab) (h : evSub tab n ops o m = some (s, lo, hi, d)) (h0 : 0 ≤ lo.lo) (h1 : lo.lo ≤ hi.hi s.size) (h2 : hi.hi s.size ≤ s.size)
    (k : Sq P G n ops l ((.s d, .tr (.sc (.string (s.extract lo.lo.toNat (hi.hi s.size).toNat)))) :: m) K) : Sq P G n ops (o :: l) m K := by
  obtain ⟨dst, op, type, pos, after, guard⟩ := o
  unfold evSub at h
  simp only at h
  split at h
  · rename_i t x lo' hi' d' hgd
    split at h
    · rename_i z hlt ht
      split at h
      · rename_i s' l' h' hx hlo hhi
        simp only [Option.some.injEq, Prod.mk.injEq] at h
        obtain ⟨rfl, rfl, rfl, rfl⟩ := h
        refine Sq.do hgd (fun Γ M Ow a w hr => ?_) k
        obtain ⟨q1, hq1⟩ := opV_ok hx hr
        have hu := hT.str ht rfl
        have hb := run_bounds (P := P) (w := w) (isSlice := false) (q := s'.size) (cap := s'.size) (bdO_ok hlo hr) (bdO_ok hhi hr) h0 h1 h2 (Nat.le_refl _)
        refine ⟨_, w, ?_, M, Ow, hr.put (Nat.lt_of_succ_le (Nat.le_of_ble_eq_true hlt)) (.tr _ _ (.sc _ rfl))⟩
        simp [execOp, Instr.sliceAt, Instr.slice, (sc_eval (Γ := Γ) hq1).1, run_underlying hu, hb]
      · cases h
    · cases h
  · cases h
def evPart (tab : Tab) (n : Nat) (ops : List Oper) (o : Oper) (m : Store) : Option (List T × Nat × Bd × Bd × Nat) := match o.op, o.dst, gOk m ops o.guard with
  | .slice t x lo hi none, some d, true => match Nat.blt d n, tlk tab t with
    | true, some ⟨_, _, .slice e, _⟩ => match tlk tab e, opV m x, bdO m lo, bdO m hi with
      | some ⟨es, _, _, _⟩, some v, some l, some h => match lsOf v with
        | some xs => some (xs, es, l, h, d)
        | none => none
      | _, _, _, _ => none
    | _, _ => none
  | _, _, _ => none
theorem Sq.part {ops l : List Oper} {o : Oper} {xs : List T} {es : Nat} {lo hi : Bd} {d : Nat} {K : Store → Prop} (hT : TabOk P tab) (h : evPart tab n ops o m = some (xs, es, lo, hi, d)) (hes : ∀ x, x ∈ xs → x.cells.length = es)
    (h0 : 0 ≤ lo.lo) (h1 : lo.lo ≤ hi.hi xs.length) (h2 : hi.hi xs.length ≤ xs.length)
    (k : Sq P G n ops l ((.s d, .tr (.ls ((xs.drop lo.lo.toNat).take ((hi.hi xs.length).toNat - lo.lo.toNat)))) :: m) K) : Sq P G n ops (o :: l) m K := by
  obtain ⟨dst, op, type, pos, after, guard⟩ := o
  unfold evPart at h
  simp only at h
  split at h
  · rename_i t x lo' hi' d' hgd
    split at h
    · rename_i e z hlt ht
      split at h
      · rename_i es' _ _ _ v l' h' he hx hlo hhi
        split at h
        · rename_i xs' hls
          simp only [Option.some.injEq, Prod.mk.injEq] at h
          obtain ⟨rfl, rfl, rfl, rfl, rfl⟩ := h
          refine Sq.do hgd (fun Γ M Ow a w hr => ?_) k
          obtain ⟨q1, hq1⟩ := opV_ok hx hr
          have hu := hT.slice ht rfl
          obtain ⟨ie, hie, hsz, _⟩ := hT.info he
          have hv' := deg_vrel hq1
          rw [lsOf_eq hls] at hv'
          have hrep : Rep w M (.ls xs') (a.eval x) := by cases hv' with | tr _ _ h => exact h
          obtain ⟨ad, cap, e1, _⟩ := hrep.ls_inv
          rw [e1] at hrep
          have hcap : xs'.length ≤ cap := by
            generalize hq : xs'.length = q at hrep
            cases hrep with
            | nil => omega
            | ls _ _ _ _ _ _ h1 => exact h1
          have hb := run_bounds (P := P) (w := w) (isSlice := true) (q := xs'.length) (cap := cap) (bdO_ok hlo hr) (bdO_ok hhi hr) h0 h1 (by omega) hcap
          have hpart := hrep.part (es := es') (l := l'.lo.toNat) (hi := (h'.hi xs'.length).toNat) hes (by omega) (by omega)
          have hsz : ie.size = es' := hsz
          refine ⟨_, w, ?_, M, Ow, hr.put (Nat.lt_of_succ_le (Nat.le_of_ble_eq_true hlt)) (.tr _ _ hpart)⟩
          simp [execOp, Instr.sliceAt, Instr.slice, e1, run_underlying hu, hb, sizeOf, typeInfo, hie, hsz]
        · cases h
      · cases h
    · cases h
  · cases h
end
end Go.Lg

set_option linter.unusedVariables false
set_option linter.unusedSimpArgs false
namespace Go.Lg
open Go Go.RowKit
structure Fp where
  fr : List Loc
  rs : List (Loc × AV)
  ws : List (Loc × AV)
def GStp (P : Program) (G : Env) (n : Nat) (ops : Array Oper) (o : Oper) (m m' : Store) : Prop :=
  ∀ (Γ : Ctx), G.ok Γ → ∀ (a : Act) (w : World), RelX P Γ n m a w →
    if Region.wanted o (yielded ops a.tmps) = true then o.wpIn (FW Γ.rd) 0 P a w (fun a' w' => RelX P Γ n m' a' w') (fun _ _ _ => False) else RelX P Γ n m' (a.put o.dst undef) w
def FStp (P : Program) (G : Env) (n : Nat) (ops : List Oper) (o : Oper) (f : Fp) : Prop :=
  pinB f.fr G.pins = true ∧ ∀ m, (∀ κ, κ ∈ f.fr → refsM κ (f.rs ++ m) = false) → GStp P G n ops.toArray o (f.rs ++ m) (f.ws ++ (f.rs ++ m))
theorem lk_app : ∀ {r m : Store} {l : Loc}, lk (r ++ m) l = match lk r l with
    | some v => some v
    | none => lk m l
  | [], m, l => rfl
  | (k, v) :: r, m, l => by
    rw [List.cons_append, lk_cons, lk_cons]
    split
    · rfl
    · exact lk_app
theorem lk_sat : ∀ {rs m : Store}, sat rs m → ∀ {l : Loc} {v : AV}, lk rs l = some v → lk m l = some v
  | (k, u) :: r, m, h, l, v, hl => by
    rw [lk_cons] at hl
    split at hl
    · rename_i e; subst e; obtain rfl := Option.some.inj hl; exact h.1
    · exact lk_sat h.2 hl
theorem lk_sat_app {rs m : Store} (h : sat rs m) (l : Loc) : lk (rs ++ m) l = lk m l := by
  rw [lk_app]
  split
  · rename_i v hv; exact (lk_sat h hv).symm
  · rfl
theorem refsM_app : ∀ {κ : Loc} {r m : Store}, refsM κ (r ++ m) = (refsM κ r || refsM κ m)
  | κ, [], m => by simp [refsM]
  | κ, (k, v) :: r, m => by simp only [List.cons_append, refsM, refsM_app, Bool.or_assoc]
theorem refsM_sat {κ : Loc} : ∀ {rs m : Store}, sat rs m → refsM κ m = false → refsM κ rs = false
  | [], m, _, _ => rfl
  | (k, v) :: r, m, h, hn => by
    simp only [refsM, Bool.or_eq_false_iff]
    exact ⟨refsM_lk' hn h.1, refsM_sat h.2 hn⟩
inductive DSq (P : Program) (G : Env) (n : Nat) (ops : List Oper) : List Oper → Store → List Fp → Store → Prop
  | nil (m : Store) : DSq P G n ops [] m [] m
  | cons (o : Oper) (l : List Oper) (m : Store) (f : Fp) (fs : List Fp) (m' : Store) : FStp P G n ops o f → sat f.rs m → freshB f.fr m = true → DSq P G n ops l (f.ws ++ m) fs m' → DSq P G n ops (o :: l) m (f :: fs) m'
def stD (D : Nat → Bool) : List Fp → Nat → Store → Store
  | [], _, m => m
  | f :: r, k, m => stD D r (k + 1) (match D k with
    | true => f.ws ++ m
    | false => m)
inductive Anc (ops : List Oper) (j : Nat) : Nat → Prop
  | edge (i : Nat) (o : Oper) (e : Edge) : ops[i]? = some o → e ∈ o.after → Region.binds .any e = true → e.on = j → Anc ops j i
  | via (i : Nat) (o : Oper) (e : Edge) : ops[i]? = some o → e ∈ o.after → Region.binds .any e = true → Anc ops j e.on → Anc ops j i
def Closed (ops : List Oper) (D : Nat → Bool) : Prop := ∀ i o e, D i = true → ops[i]? = some o → e ∈ o.after → Region.binds .any e = true → D e.on = true
theorem Anc.mem {ops : List Oper} {D : Nat → Bool} (hc : Closed ops D) {i j : Nat} (h : Anc ops j i) (hi : D i = true) : D j = true := by
  induction h with
  | edge i o e h1 h2 h3 h4 => subst h4; exact hc i o e hi h1 h2 h3
  | via i o e h1 h2 h3 h4 ih => exact ih (hc i o e hi h1 h2 h3)
theorem Anc.mem' {ops : List Oper} {D : Nat → Bool} (hc : Closed ops D) {i j : Nat} (h : Anc ops j i) (hi : ∀ o e, ops[i]? = some o → e ∈ o.after → Region.binds .any e = true → D e.on = true) : D j = true := by
  cases h with
  | edge _ o e h1 h2 h3 h4 => subst h4; exact hi o e h1 h2 h3
  | via _ o e h1 h2 h3 h4 => exact h4.mem hc (hi o e h1 h2 h3)
def bit (j : Nat) (x : Nat) : Bool := Nat.beq (Nat.land (Nat.shiftRight x j) 1) 1
def anc1 (acc : List Nat) : List Edge → Nat
  | [] => 0
  | e :: r => match Region.binds .any e with
    | true => Nat.lor (Nat.lor (Nat.shiftLeft 1 e.on) (nthN acc e.on)) (anc1 acc r)
    | false => anc1 acc r
where nthN : List Nat → Nat → Nat
  | [], _ => 0
  | x :: _, 0 => x
  | _ :: r, i + 1 => nthN r i
theorem bit_eq (j x : Nat) : bit j x = x.testBit j := by
  unfold bit
  rw [show Nat.land (Nat.shiftRight x j) 1 = (x >>> j) &&& 1 from rfl, Nat.testBit]
  rw [Nat.and_comm]
  have : 1 &&& (x >>> j) = (x >>> j) % 2 := by rw [Nat.and_comm, Nat.and_one_is_mod]
  rw [this]
  rcases Nat.mod_two_eq_zero_or_one (x >>> j) with h | h <;> rw [h] <;> rfl
theorem nthN_eq : ∀ (l : List Nat) (i : Nat), anc1.nthN l i = l.getD i 0
  | [], i => by simp [anc1.nthN]
  | x :: r, 0 => by simp [anc1.nthN]
  | x :: r, i + 1 => by simp only [anc1.nthN, nthN_eq r i]; simp
theorem anc1_bit {acc : List Nat} {j : Nat} : ∀ {es : List Edge}, (anc1 acc es).testBit j = true → ∃ e, e ∈ es ∧ Region.binds .any e = true ∧ (e.on = j ∨ (acc.getD e.on 0).testBit j = true)
  | [], h => by simp [anc1] at h
  | e :: r, h => by
    simp only [anc1] at h
    split at h
    · rename_i hb
      rw [show ∀ a b : Nat, Nat.lor a b = a ||| b from fun _ _ => rfl, show ∀ a b : Nat, Nat.lor a b = a ||| b from fun _ _ => rfl, Nat.testBit_or, Nat.testBit_or, Bool.or_eq_true, Bool.or_eq_true] at h
      rcases h with (h | h) | h
      · refine ⟨e, List.mem_cons_self .., hb, .inl ?_⟩
        rw [show Nat.shiftLeft 1 e.on = 1 <<< e.on from rfl, Nat.shiftLeft_eq, Nat.one_mul, Nat.testBit_two_pow] at h
        simpa using h
      · exact ⟨e, List.mem_cons_self .., hb, .inr (by rwa [nthN_eq] at h)⟩
      · obtain ⟨e', h1, h2, h3⟩ := anc1_bit h
        exact ⟨e', List.mem_cons_of_mem _ h1, h2, h3⟩
    · obtain ⟨e', h1, h2, h3⟩ := anc1_bit h
      exact ⟨e', List.mem_cons_of_mem _ h1, h2, h3⟩
def ancs : List Oper → List Nat → List Nat
  | [], acc => acc
  | o :: r, acc => ancs r (snoc acc (anc1 acc o.after.toList))
where snoc : List Nat → Nat → List Nat
  | [], x => [x]
  | y :: r, x => y :: snoc r x
theorem snoc_eq : ∀ (l : List Nat) (x : Nat), ancs.snoc l x = l ++ [x]
  | [], x => rfl
  | y :: r, x => by simp only [ancs.snoc, snoc_eq r x]; rfl
theorem ancs_anc {ops : List Oper} : ∀ {l : List Oper} {acc : List Nat}, ops.drop acc.length = l → acc.length + l.length = ops.length → (∀ i j, (acc.getD i 0).testBit j = true → Anc ops j i) → ∀ i j, ((ancs l acc).getD i 0).testBit j = true → Anc ops j i
  | [], acc, _, _, h => h
  | o :: r, acc, hd, hl, h => by
    simp only [ancs, snoc_eq]
    have hat : ops[acc.length]? = some o := by
      have : (ops.drop acc.length)[0]? = some o := by rw [hd]; rfl
      simpa using this
    refine ancs_anc (by
      have : ops.drop (acc.length + 1) = r := by rw [← List.drop_drop, hd]; rfl
      simpa using this) (by simp at hl ⊢; omega) ?_
    intro i j hb
    rcases Nat.lt_or_ge i acc.length with hi | hi
    · refine h i j ?_
      rwa [List.getD_eq_getElem?_getD, List.getElem?_append_left hi, ← List.getD_eq_getElem?_getD] at hb
    · rcases Nat.eq_or_lt_of_le hi with e | hgt
      · subst e
        rw [List.getD_eq_getElem?_getD, List.getElem?_append_right (Nat.le_refl _)] at hb
        simp at hb
        obtain ⟨e, h1, h2, h3⟩ := anc1_bit hb
        have h1 : e ∈ o.after := by simpa using h1
        rcases h3 with h3 | h3
        · exact .edge _ o e hat h1 h2 h3
        · exact .via _ o e hat h1 h2 (h _ _ h3)
      · rw [List.getD_eq_getElem?_getD, List.getElem?_eq_none (by simp; omega)] at hb
        simp at hb
def kOf : List (Loc × AV) → List Loc
  | [] => []
  | (l, _) :: r => l :: kOf r
def inL (l : Loc) : List Loc → Bool
  | [] => false
  | k :: r => k.eqb l || inL l r
theorem inL_mem {l : Loc} : ∀ {ks : List Loc}, l ∈ ks → inL l ks = true
  | k :: r, h => by
    simp only [inL, Bool.or_eq_true]
    rcases List.mem_cons.1 h with rfl | h
    · exact .inl (Loc.eqb_self _)
    · exact .inr (inL_mem h)
theorem lk_none_of {l : Loc} : ∀ {r : Store}, inL l (kOf r) = false → lk r l = none
  | [], _ => rfl
  | (k, v) :: r, h => by
    simp only [kOf, inL, Bool.or_eq_false_iff] at h
    rw [lk_cons, if_neg (fun e => by rw [e, Loc.eqb_self] at h; exact absurd h.1 (by simp))]
    exact lk_none_of h.2
def meetB : List Loc → List Loc → Bool
  | [], _ => false
  | k :: r, s => inL k s || meetB r s
theorem meetB_mem {ks ls : List Loc} (h : meetB ks ls = false) {l : Loc} (h1 : l ∈ ks) : inL l ls = false := by
  induction ks with
  | nil => cases h1
  | cons k r ih =>
    simp only [meetB, Bool.or_eq_false_iff] at h
    rcases List.mem_cons.1 h1 with rfl | h1
    · exact h.1
    · exact ih h.2 h1
def frRefs : List Loc → List (Loc × AV) → Bool
  | [], _ => false
  | κ :: r, ws => refsM κ ws || frRefs r ws
theorem frRefs_mem {fr : List Loc} {ws : List (Loc × AV)} (h : frRefs fr ws = false) {κ : Loc} (hk : κ ∈ fr) : refsM κ ws = false := by
  induction fr with
  | nil => cases hk
  | cons k r ih =>
    simp only [frRefs, Bool.or_eq_false_iff] at h
    rcases List.mem_cons.1 hk with rfl | hk
    · exact h.1
    · exact ih h.2 hk
def apart (f g : Fp) : Bool := !(meetB (kOf f.ws) (kOf g.rs)) && !(meetB (kOf f.ws) (kOf g.ws)) && !(meetB (kOf g.ws) (kOf f.rs)) && !(meetB (kOf g.ws) (kOf f.ws)) && !(frRefs f.fr g.ws) && !(frRefs g.fr f.ws)
def chkRow (j : Nat) (g : Fp) (mask : Nat) : Nat → List Fp → Bool
  | _, [] => true
  | i, f :: r => (match Nat.beq i j with
    | true => true
    | false => match Nat.blt i j with
      | true => (bit i mask || apart f g) && chkRow j g mask (i + 1) r
      | false => true)
def chkAll (fs : List Fp) (masks : List Nat) : Nat → List Fp → Bool
  | _, [] => true
  | j, g :: r => chkRow j g (anc1.nthN masks j) 0 fs && chkAll fs masks (j + 1) r
def downB : Nat → List Oper → Bool
  | _, [] => true
  | i, o :: r => downE i o.after.toList && downB (i + 1) r
where downE (i : Nat) : List Edge → Bool
  | [] => true
  | e :: r => (match Region.binds .any e with
    | true => Nat.blt e.on i
    | false => true) && downE i r
theorem chkRow_spec {j : Nat} {g : Fp} {mask : Nat} : ∀ {l : List Fp} {k : Nat}, chkRow j g mask k l = true → ∀ (i : Nat) (f : Fp), l[i]? = some f → k + i < j → bit (k + i) mask = true ∨ apart f g = true
  | f0 :: r, k, h, i, f, hf, hlt => by
    simp only [chkRow] at h
    split at h
    · rename_i e; have := Nat.eq_of_beq_eq_true e; omega
    · split at h
      · simp only [Bool.and_eq_true, Bool.or_eq_true] at h
        cases i with
        | zero => simp at hf; subst hf; exact h.1
        | succ i =>
          have := chkRow_spec h.2 i f (by simpa using hf) (by omega)
          rw [show k + 1 + i = k + (i + 1) by omega] at this; exact this
      · rename_i e
        have : ¬ k < j := by
          intro hk
          have : Nat.blt k j = true := Nat.ble_eq_true_of_le hk
          rw [this] at e; cases e
        omega
theorem chkAll_spec {fs : List Fp} {masks : List Nat} : ∀ {l : List Fp} {k : Nat}, chkAll fs masks k l = true → ∀ (j : Nat) (g : Fp), l[j]? = some g → chkRow (k + j) g (masks.getD (k + j) 0) 0 fs = true
  | g0 :: r, k, h, j, g, hg => by
    simp only [chkAll, Bool.and_eq_true] at h
    cases j with
    | zero => simp at hg; subst hg; rw [← nthN_eq]; exact h.1
    | succ j =>
      have := chkAll_spec h.2 j g (by simpa using hg)
      rw [show k + 1 + j = k + (j + 1) by omega] at this; exact this
theorem downE_spec {i : Nat} {e : Edge} (hb : Region.binds .any e = true) : ∀ {es : List Edge}, downB.downE i es = true → e ∈ es → e.on < i
  | [], _, hm => by cases hm
  | e0 :: r, hes, hm => by
    simp only [downB.downE, Bool.and_eq_true] at hes
    rcases List.mem_cons.1 hm with h | hm
    · subst h
      have := hes.1; rw [hb] at this; exact Nat.lt_of_succ_le (Nat.le_of_ble_eq_true this)
    · exact downE_spec hb hes.2 hm
theorem downB_spec : ∀ (l : List Oper) (k : Nat), downB k l = true → ∀ (i : Nat) (o : Oper) (e : Edge), l[i]? = some o → e ∈ o.after → Region.binds .any e = true → e.on < k + i := by
  intro l
  induction l with
  | nil => intro k h i o e ho; simp at ho
  | cons o0 r ih =>
    intro k h i o e ho he hb
    simp only [downB, Bool.and_eq_true] at h
    cases i with
    | zero =>
      simp at ho; subst ho
      exact downE_spec hb h.1 (by simpa using he)
    | succ i =>
      have := ih (k + 1) h.2 i o e (by simpa using ho) he hb
      omega
theorem inL_false_lk {l : Loc} {ws m : Store} (h : inL l (kOf ws) = false) : lk (ws ++ m) l = lk m l := by
  rw [lk_app, lk_none_of h]
theorem stD_congr {D D' : Nat → Bool} {loc : Loc} : ∀ {fs : List Fp} {k : Nat} {m m' : Store}, lk m loc = lk m' loc → (∀ j f, fs[j]? = some f → inL loc (kOf f.ws) = true → D (k + j) = D' (k + j)) → lk (stD D fs k m) loc = lk (stD D' fs k m') loc
  | [], k, m, m', h, _ => h
  | f :: r, k, m, m', h, hd => by
    simp only [stD]
    refine stD_congr ?_ (fun j g hg hl => by
      have := hd (j + 1) g (by simpa using hg) hl
      rw [show k + 1 + j = k + (j + 1) by omega]; exact this)
    cases hin : inL loc (kOf f.ws) with
    | true =>
      have e := hd 0 f rfl hin
      simp only [Nat.add_zero] at e
      rw [e]
      cases D' k with
      | true => simp only [lk_app, h]
      | false => exact h
    | false =>
      have h1 : ∀ (b : Bool) (q : Store), lk (match b with | true => f.ws ++ q | false => q) loc = lk q loc := by
        intro b q; cases b with
        | true => exact inL_false_lk hin
        | false => rfl
      rw [h1, h1]; exact h
theorem stD_top {D : Nat → Bool} {loc : Loc} {v : AV} : ∀ {fs : List Fp} {k i : Nat} {m : Store} {f : Fp}, fs[i]? = some f → D (k + i) = true → lk f.ws loc = some v → (∀ j g, fs[j]? = some g → i < j → D (k + j) = true → inL loc (kOf g.ws) = false) → lk (stD D fs k m) loc = some v
  | f0 :: r, k, i, m, f, hf, hD, hv, hj => by
    simp only [stD]
    cases i with
    | succ i =>
      exact stD_top (fs := r) (k := k + 1) (i := i) (by simpa using hf) (by rw [show k + 1 + i = k + (i + 1) by omega]; exact hD) hv (fun j g hg hlt hDj => hj (j + 1) g (by simpa using hg) (by omega) (by rw [show k + (j + 1) = k + 1 + j by omega]; exact hDj))
    | zero =>
      simp at hf; subst hf
      simp only [Nat.add_zero] at hD
      rw [hD]
      -- none of the rest writes it
      have : lk (stD D r (k + 1) (f0.ws ++ m)) loc = lk (stD (fun _ => false) r (k + 1) (f0.ws ++ m)) loc := by
        refine stD_congr rfl (fun j g hg hl => ?_)
        cases hDj : D (k + 1 + j) with
        | false => rfl
        | true =>
          have := hj (j + 1) g (by simpa using hg) (by omega) (by rw [show k + (j + 1) = k + 1 + j by omega]; exact hDj)
          rw [this] at hl; cases hl
      rw [this]
      have hf : ∀ (r : List Fp) (k : Nat) (q : Store), stD (fun _ => false) r k q = q := by
        intro r
        induction r with
        | nil => intro k q; rfl
        | cons g r ih => intro k q; simp only [stD]; exact ih _ _
      rw [hf, lk_app, hv]
theorem stD_refs {D : Nat → Bool} {κ : Loc} : ∀ {fs : List Fp} {k : Nat} {m : Store}, refsM κ m = false → (∀ j f, fs[j]? = some f → D (k + j) = true → refsM κ f.ws = false) → refsM κ (stD D fs k m) = false
  | [], k, m, h, _ => h
  | f :: r, k, m, h, hd => by
    simp only [stD]
    refine stD_refs ?_ (fun j g hg hD => hd (j + 1) g (by simpa using hg) (by rw [show k + (j + 1) = k + 1 + j by omega]; exact hD))
    cases hDk : D k with
    | true => simp only [refsM_app, h, hd 0 f rfl hDk, Bool.or_false]
    | false => exact h
theorem stD_refs_inv {D : Nat → Bool} {κ : Loc} : ∀ {fs : List Fp} {k : Nat} {m : Store}, refsM κ (stD D fs k m) = false → refsM κ m = false ∧ ∀ j f, fs[j]? = some f → D (k + j) = true → refsM κ f.ws = false
  | [], k, m, h => ⟨h, fun j f hf => by simp at hf⟩
  | f :: r, k, m, h => by
    simp only [stD] at h
    obtain ⟨h1, h2⟩ := stD_refs_inv h
    refine ⟨?_, ?_⟩
    · cases hDk : D k with
      | true => rw [hDk] at h1; simp only [refsM_app, Bool.or_eq_false_iff] at h1; exact h1.2
      | false => rw [hDk] at h1; exact h1
    · intro j g hg hD
      cases j with
      | zero =>
        simp at hg; subst hg
        simp only [Nat.add_zero] at hD
        rw [hD] at h1; simp only [refsM_app, Bool.or_eq_false_iff] at h1; exact h1.1
      | succ j => exact h2 j g (by simpa using hg) (by rw [show k + 1 + j = k + (j + 1) by omega]; exact hD)
section
variable {P : Program} {G : Env} {n : Nat} {m : Store}
theorem DSq.at {ops : List Oper} : ∀ {l : List Oper} {m m' : Store} {fs : List Fp}, DSq P G n ops l m fs m' → ∀ (k : Nat), fs.length = l.length ∧ m' = stD (fun _ => true) fs k m ∧ ∀ (i : Nat) (o : Oper) (f : Fp), l[i]? = some o → fs[i]? = some f →
    FStp P G n ops o f ∧ sat f.rs (stD (fun j => decide (j < k + i)) fs k m) ∧ freshB f.fr (stD (fun j => decide (j < k + i)) fs k m) = true
  | _, m, _, _, .nil _, k => ⟨rfl, rfl, fun i o f ho => by simp at ho⟩
  | _, m, _, _, .cons o l _ f fs m' h1 h2 h3 h4, k => by
    obtain ⟨a1, a2, a3⟩ := DSq.at h4 (k + 1)
    refine ⟨by simp [a1], by simpa only [stD] using a2, ?_⟩
    intro i o' f' ho hf
    cases i with
    | zero =>
      simp at ho hf; subst ho; subst hf
      have e : stD (fun j => decide (j < k + 0)) (f :: fs) k m = m := by
        have : ∀ (r : List Fp) (k' : Nat) (q : Store), k ≤ k' → stD (fun j => decide (j < k + 0)) r k' q = q := by
          intro r
          induction r with
          | nil => intro k' q _; rfl
          | cons g r ih =>
            intro k' q hk
            simp only [stD]
            have : decide (k' < k + 0) = false := by simp; omega
            rw [this]; exact ih _ _ (by omega)
        exact this _ _ _ (Nat.le_refl _)
      rw [e]
      exact ⟨h1, h2, h3⟩
    | succ i =>
      obtain ⟨b1, b2, b3⟩ := a3 i o' f' (by simpa using ho) (by simpa using hf)
      have e : stD (fun j => decide (j < k + (i + 1))) (f :: fs) k m = stD (fun j => decide (j < k + 1 + i)) fs (k + 1) (f.ws ++ m) := by
        simp only [stD]
        have : decide (k < k + (i + 1)) = true := by simp
        rw [this]
        congr 1
        funext j
        congr 1
        simp; omega
      rw [e]
      exact ⟨b1, b2, b3⟩
theorem apart_spec {f g : Fp} (h : apart f g = true) : meetB (kOf f.ws) (kOf g.rs) = false ∧ meetB (kOf f.ws) (kOf g.ws) = false ∧ meetB (kOf g.ws) (kOf f.rs) = false ∧ meetB (kOf g.ws) (kOf f.ws) = false ∧ frRefs f.fr g.ws = false ∧ frRefs g.fr f.ws = false := by
  unfold apart at h
  simp only [Bool.and_eq_true, Bool.not_eq_true'] at h
  obtain ⟨⟨⟨⟨⟨h1, h2⟩, h3⟩, h4⟩, h5⟩, h6⟩ := h
  exact ⟨h1, h2, h3, h4, h5, h6⟩
theorem inL_mem' {l : Loc} : ∀ {ks : List Loc}, inL l ks = true → l ∈ ks
  | k :: r, h => by
    simp only [inL, Bool.or_eq_true] at h
    rcases h with h | h
    · rw [Loc.eqb_iff.1 h]; exact List.mem_cons_self ..
    · exact List.mem_cons_of_mem _ (inL_mem' h)
theorem sat_of_lk {m m' : Store} : ∀ {rs : List (Loc × AV)}, sat rs m → (∀ l, l ∈ kOf rs → lk m' l = lk m l) → sat rs m'
  | [], _, _ => trivial
  | (l, v) :: r, h, hl => ⟨(hl l (List.mem_cons_self ..)).trans h.1, sat_of_lk h.2 (fun l' h' => hl l' (List.mem_cons_of_mem _ h'))⟩
theorem Tr.drawn {id : Nat} {l : List Oper} {fs : List Fp} {m' : Store} {Q : Exit → Store → Prop} (hd : DSq P G n l l m fs m') (hmix : P.follows .mixedOrders = true) (hchk : (chkAll fs (ancs l []) 0 fs && downB 0 l) = true) (hQ : Q .normal m') :
    Tr P G n (.region id l.toArray true) m Q := by
  simp only [Bool.and_eq_true] at hchk
  obtain ⟨hc, hdown⟩ := hchk
  obtain ⟨hlen, hm', hat⟩ := hd.at 0
  have hanc : ∀ i j, ((ancs l []).getD i 0).testBit j = true → Anc l j i := ancs_anc (ops := l) (l := l) (acc := []) rfl (by simp) (fun i j h => by simp at h)
  -- two operations whose order is open
  have hrow : ∀ (i j : Nat) (f g : Fp), fs[i]? = some f → fs[j]? = some g → i < j → Anc l i j ∨ apart f g = true := by
    intro i j f g hf hg hij
    have h1 := chkAll_spec hc j g hg
    rw [Nat.zero_add] at h1
    have h2 := chkRow_spec h1 i f hf (by omega)
    rw [Nat.zero_add, bit_eq] at h2
    exact h2.imp (hanc j i) (fun h => h)
  intro Γ hΓ a w hr
  refine wpIn_region_any hmix ?_
  have hr0 : RelX P Γ n m a { w with drawn := w.drawn + 1 } := by
    obtain ⟨M, Ow, hr⟩ := hr
    exact ⟨M, Ow, hr.ext (w' := w.drew) (M' := M) (Below.refl _ w).drew (fun _ _ h => h) (fun _ _ h => .inl h) (fun b o h => hr.mlt b o h)⟩
  generalize ({ w with drawn := w.drawn + 1 } : World) = w1 at hr0
  -- every set that may be done
  have main : ∀ (fuel : Nat) (listed : Array Bool) (a : Act) (w : World), listed.size = l.length → Closed l (fun i => listed.getD i false) → (∀ i, l.length ≤ i → listed.getD i false = false) → (l.length ≤ fuel + ((List.range l.length).filter fun i => listed.getD i false).length) →
      RelX P Γ n (stD (fun i => listed.getD i false) fs 0 m) a w → wpAnyIn (FW Γ.rd) 0 P .any l.toArray (fun e a' w' => ∃ m', Q e m' ∧ RelX P Γ n m' a' w') fuel listed a w := by
    have fin : ∀ (listed : Array Bool) (a : Act) (w : World), listed.size = l.length → Region.ready .any l.toArray listed = [] → RelX P Γ n (stD (fun i => listed.getD i false) fs 0 m) a w → ∃ m', Q .normal m' ∧ RelX P Γ n m' a w := by
      intro listed a w hsz hrd hrel
      have all : ∀ i, i < l.length → listed.getD i false = true := by
        intro i
        induction i using Nat.strongRecOn with
        | _ i ih =>
          intro hi
          cases hli : listed.getD i false with
          | true => rfl
          | false =>
            exfalso
            have hmem : i ∈ Region.ready .any l.toArray listed := by
              unfold Region.ready
              rw [List.mem_filter]
              refine ⟨by simpa using hi, ?_⟩
              have hget : listed.getD i true = false := by
                rw [Array.getD_eq_getD_getElem?] at hli ⊢
                rw [Array.getElem?_eq_getElem (by omega)] at hli ⊢
                simpa using hli
              have hop : l.toArray[i]? = some l[i] := by simp [hi]
              rw [hget, hop]
              simp only [Bool.not_false, Option.map_some, Option.getD_some, Bool.true_and]
              rw [Array.all_eq_true_iff_forall_mem]
              intro e he
              cases hb : Region.binds .any e with
              | false => rfl
              | true =>
                have hlt := downB_spec l 0 hdown i l[i] e (by simp [hi]) he hb
                rw [Nat.zero_add] at hlt
                rw [ih e.on hlt (by omega)]; rfl
            rw [hrd] at hmem; cases hmem
      refine ⟨m', hQ, ?_⟩
      subst hm'
      refine hrel.sub fun loc v hv => ?_
      rw [← hv]
      refine stD_congr rfl (fun j f hf _ => ?_)
      have : j < fs.length := by
        rcases Nat.lt_or_ge j fs.length with h | h
        · exact h
        · rw [List.getElem?_eq_none h] at hf; cases hf
      rw [Nat.zero_add]; exact all j (by omega)
    intro fuel
    induction fuel with
    | zero =>
      intro listed a w hsz hcl hout hfu hrel
      have hrd : Region.ready .any l.toArray listed = [] := by
        have hall : ∀ i, i < l.length → listed.getD i false = true := by
          intro i hi
          have h1 : ((List.range l.length).filter fun i => listed.getD i false).length ≤ (List.range l.length).length := List.length_filter_le _ _
          have h2 : ((List.range l.length).filter fun i => listed.getD i false).length = (List.range l.length).length := by simp at h1 hfu ⊢; omega
          have := List.length_filter_eq_length_iff.1 h2 i (by simpa using hi)
          exact this
        unfold Region.ready
        rw [List.filter_eq_nil_iff]
        intro i hi
        have hi : i < l.length := by simpa using hi
        have := hall i hi
        rw [Array.getD_eq_getD_getElem?, Array.getElem?_eq_getElem (by omega)] at this
        rw [Array.getD_eq_getD_getElem?, Array.getElem?_eq_getElem (by omega)]
        simp at this
        simp [this]
      exact ⟨hrd, fin listed a w hsz hrd hrel⟩
    | succ fuel ih =>
      intro listed a w hsz hcl hout hfu hrel
      refine ⟨fun hrd => fin listed a w hsz hrd hrel, fun i hi => ?_⟩
      unfold Region.ready at hi
      rw [List.mem_filter] at hi
      obtain ⟨hi1, hi2⟩ := hi
      have hi1 : i < l.length := by simpa using hi1
      have hop : l.toArray[i]? = some l[i] := by simp [hi1]
      rw [hop] at hi2
      simp only [Option.map_some, Option.getD_some, Bool.and_eq_true, Bool.not_eq_true'] at hi2
      obtain ⟨hnl, hpre⟩ := hi2
      have hDi : listed.getD i false = false := by
        rw [Array.getD_eq_getD_getElem?, Array.getElem?_eq_getElem (by omega)] at hnl ⊢
        simpa using hnl
      have hpreds : ∀ o e, l[i]? = some o → e ∈ o.after → Region.binds .any e = true → listed.getD e.on false = true := by
        intro o e ho he hb
        have : o = l[i] := by rw [List.getElem?_eq_getElem hi1] at ho; exact (Option.some.inj ho).symm
        subst this
        have := (Array.all_eq_true_iff_forall_mem.1 hpre) e he
        rw [hb] at this; simpa using this
      obtain ⟨f, hf⟩ : ∃ f, fs[i]? = some f := ⟨fs[i]'(by omega), by simp⟩
      obtain ⟨hstep, hsat, hfresh⟩ := hat i l[i] f (by simp [hi1]) hf
      rw [Nat.zero_add] at hsat hfresh
      -- behind it nothing of what is done waits for it
      have hlater : ∀ j g, fs[j]? = some g → i < j → listed.getD j false = true → apart f g = true := by
        intro j g hg hij hDj
        rcases hrow i j f g hf hg hij with h | h
        · have := h.mem hcl hDj; rw [hDi] at this; cases this
        · exact h
      -- what it reads stands as in the lexical order
      have hsat' : sat f.rs (stD (fun i => listed.getD i false) fs 0 m) := by
        refine sat_of_lk hsat fun loc hloc => ?_
        refine stD_congr rfl (fun j g hg hw => ?_)
        rw [Nat.zero_add]
        rcases Nat.lt_trichotomy j i with h | h | h
        · have : listed.getD j false = true := by
            rcases hrow j i g f hg hf h with h' | h'
            · exact h'.mem' hcl hpreds
            · have := meetB_mem (apart_spec h').1 (inL_mem' hw)
              rw [inL_mem hloc] at this; cases this
          rw [this]; simp [h]
        · subst h; rw [hDi]; simp
        · have : listed.getD j false = false := by
            cases hDj : listed.getD j false with
            | false => rfl
            | true =>
              have := meetB_mem (apart_spec (hlater j g hg h hDj)).2.2.1 (inL_mem' hw)
              rw [inL_mem hloc] at this; cases this
          rw [this]; simp; omega
      have hfr : ∀ κ, κ ∈ f.fr → refsM κ (f.rs ++ stD (fun i => listed.getD i false) fs 0 m) = false := by
        intro κ hκ
        have h1 := freshB_eq hfresh κ hκ
        obtain ⟨h2, h3⟩ := stD_refs_inv h1
        have h4 : refsM κ (stD (fun i => listed.getD i false) fs 0 m) = false := by
          refine stD_refs h2 (fun j g hg hDj => ?_)
          rw [Nat.zero_add] at hDj
          rcases Nat.lt_trichotomy j i with h | h | h
          · exact h3 j g hg (by rw [Nat.zero_add]; simp [h])
          · subst h; rw [hDi] at hDj; cases hDj
          · exact frRefs_mem (apart_spec (hlater j g hg h hDj)).2.2.2.2.1 hκ
        rw [refsM_app, refsM_sat hsat' h4, h4]; rfl
      have hrel' : RelX P Γ n (f.rs ++ stD (fun i => listed.getD i false) fs 0 m) a w := hrel.sub fun loc v hv => by rw [lk_sat_app hsat'] at hv; exact hv
      have hgo := hstep.2 _ hfr Γ hΓ a w hrel'
      have hset : ∀ j, (listed.setIfInBounds i true).getD j false = if j = i then true else listed.getD j false := by
        intro j
        rw [Array.getD_eq_getD_getElem?, Array.getElem?_setIfInBounds]
        by_cases e : i = j
        · subst e; rw [if_pos rfl, if_pos (by omega)]; simp
        · rw [if_neg e, if_neg (fun h => e h.symm), Array.getD_eq_getD_getElem?]
      have hnext : ∀ (a' : Act) (w' : World), RelX P Γ n (f.ws ++ (f.rs ++ stD (fun i => listed.getD i false) fs 0 m)) a' w' → wpAnyIn (FW Γ.rd) 0 P .any l.toArray (fun e a' w' => ∃ m', Q e m' ∧ RelX P Γ n m' a' w') fuel (listed.setIfInBounds i true) a' w' := by
        intro a' w' hrel2
        refine ih (listed.setIfInBounds i true) a' w' (by simpa using hsz) ?_ ?_ ?_ ?_
        · intro j o e hj ho he hb
          simp only [hset] at hj ⊢
          split
          · rfl
          · split at hj
            · rename_i h; subst h; exact hpreds o e ho he hb
            · exact hcl j o e hj ho he hb
        · intro j hj
          rw [hset, if_neg (by omega)]; exact hout j hj
        · have : ((List.range l.length).filter fun j => listed.getD j false).length + 1 ≤ ((List.range l.length).filter fun j => (listed.setIfInBounds i true).getD j false).length := by
            have e1 : (fun j => (listed.setIfInBounds i true).getD j false) = fun j => (decide (j = i) || listed.getD j false) := by
              funext j; rw [hset]; by_cases h : j = i <;> simp [h]
            rw [e1, ← List.countP_eq_length_filter, ← List.countP_eq_length_filter]
            have key : ∀ (r : List Nat), i ∈ r → r.Nodup → List.countP (fun j => listed.getD j false) r + 1 ≤ List.countP (fun j => (decide (j = i) || listed.getD j false)) r := by
              intro r
              induction r with
              | nil => intro h; cases h
              | cons x r ih2 =>
                intro hm hnd
                rw [List.nodup_cons] at hnd
                rw [List.countP_cons, List.countP_cons]
                by_cases hx : x = i
                · subst hx
                  have : List.countP (fun j => listed.getD j false) r ≤ List.countP (fun j => (decide (j = x) || listed.getD j false)) r := List.countP_mono_left (fun j _ h => by simp [h])
                  have e3 : (decide (x = x) || false) = true := by simp
                  rw [hDi, e3, if_neg (by simp), if_pos rfl]; omega
                · have := ih2 ((List.mem_cons.1 hm).resolve_left (fun h => hx h.symm)) hnd.2
                  have e2 : (decide (x = i) || listed.getD x false) = listed.getD x false := by simp [hx]
                  rw [e2]; omega
            exact key _ (by simpa using hi1) List.nodup_range
          omega
        · refine hrel2.sub fun loc v hv => ?_
          rw [lk_app, lk_sat_app hsat', ← lk_app]
          rw [← hv]
          cases hin : inL loc (kOf f.ws) with
          | true =>
            obtain ⟨u, hu⟩ : ∃ u, lk f.ws loc = some u := by
              have : ∀ (r : Store), inL loc (kOf r) = true → ∃ u, lk r loc = some u := by
                intro r
                induction r with
                | nil => intro h; cases h
                | cons p r ih2 =>
                  obtain ⟨k, x⟩ := p
                  intro h
                  rw [lk_cons]
                  split
                  · exact ⟨x, rfl⟩
                  · rename_i hne
                    simp only [kOf, inL, Bool.or_eq_true] at h
                    rcases h with h | h
                    · exact absurd (Loc.eqb_iff.1 h) hne
                    · exact ih2 h
              exact this _ hin
            rw [lk_app, hu]
            refine (stD_top hf (by rw [Nat.zero_add]; simp only [hset]; simp) hu (fun j g hg hij hDj => ?_)).symm
            rw [Nat.zero_add] at hDj
            simp only [hset, if_neg (show ¬ j = i by omega)] at hDj
            have := (apart_spec (hlater j g hg hij hDj)).2.1
            exact meetB_mem this (inL_mem' hin)
          | false =>
            rw [inL_false_lk hin]
            refine stD_congr rfl (fun j g hg hl => ?_)
            rw [Nat.zero_add]
            simp only [hset]
            split
            · rename_i h; subst h
              rw [hf] at hg; obtain rfl := Option.some.inj hg
              rw [hin] at hl; cases hl
            · rfl
      unfold wpOpIn
      rw [hop]
      simp only
      by_cases hw : Region.wanted l[i] (yielded l.toArray a.tmps) = true
      · rw [if_pos hw] at hgo ⊢
        exact opIn_mono hnext hgo
      · rw [if_neg hw] at hgo ⊢
        exact ⟨fun _ _ => trivial, hnext _ _ hgo⟩
  refine main l.toArray.size (Array.replicate l.toArray.size false) a w1 (by simp) ?_ ?_ (by simp) ?_
  · intro i o e h
    replace h : (Array.replicate l.toArray.size false).getD i false = true := h
    rw [Array.getD_eq_getD_getElem?, Array.getElem?_replicate] at h
    split at h <;> simp at h
  · intro i _
    rw [Array.getD_eq_getD_getElem?, Array.getElem?_replicate]
    split <;> rfl
  · have e : (fun i => (Array.replicate l.toArray.size false).getD i false) = fun _ => false := by
      funext i
      rw [Array.getD_eq_getD_getElem?, Array.getElem?_replicate]
      split <;> rfl
    rw [e]
    have hf : ∀ (r : List Fp) (k : Nat) (q : Store), stD (fun _ => false) r k q = q := by
      intro r
      induction r with
      | nil => intro k q; rfl
      | cons g r ih => intro k q; simp only [stD]; exact ih _ _
    rw [hf]; exact hr0
end
end Go.Lg

set_option linter.unusedVariables false
set_option linter.unusedSimpArgs false
namespace Go.Lg
open Go Go.RowKit
section
variable {P : Program} {G : Env} {n : Nat} {tab : Tab} {m : Store}
theorem sat_self {rs m0 : Store} (h : sat rs m0) (m : Store) : sat rs (rs ++ m) := by
  refine sat_of_lk h fun l hl => ?_
  have : ∃ v, lk rs l = some v := by
    clear h
    induction rs with
    | nil => cases hl
    | cons p r ih =>
      obtain ⟨k, x⟩ := p
      rw [lk_cons]
      split
      · exact ⟨x, rfl⟩
      · rename_i hne
        exact ih ((List.mem_cons.1 hl).resolve_left (fun e => hne e.symm))
  obtain ⟨v, hv⟩ := this
  rw [lk_app, hv, lk_sat h hv]
def appD : List (Loc × AV) → Store → (Store → Option (Fp × Store)) → Option (Fp × Store)
  | [], m, k => k m
  | x :: r, m, k => appD r m fun m' => k (x :: m')
theorem appD_eq : ∀ {ws : List (Loc × AV)} {m : Store} {k : Store → Option (Fp × Store)}, appD ws m k = k (ws ++ m)
  | [], _, _ => rfl
  | x :: r, m, k => by simp only [appD, appD_eq, List.cons_append]
def evD (tab : Tab) (n : Nat) (ops : List Oper) (o : Oper) (m : Store) : Option (Fp × Store) := match evG tab n m (bases ops) ops o with
  | some (fr, rs, ws) => appD ws m fun m' => some (⟨fr, rs, ws⟩, m')
  | none => none
theorem zD {ops l : List Oper} {o : Oper} {f : Fp} {m2 m' : Store} {fs : List Fp} (hT : TabOk P tab) (h : evD tab n ops o m = some (f, m2)) (hf : (freshB f.fr m && pinB f.fr G.pins) = true) (k : DSq P G n ops l m2 fs m') : DSq P G n ops (o :: l) m (f :: fs) m' := by
  unfold evD at h
  split at h
  · rename_i fr rs ws he
    rw [appD_eq] at h
    simp only [Option.some.injEq, Prod.mk.injEq] at h
    obtain ⟨rfl, rfl⟩ := h
    obtain ⟨h1, h2⟩ := evG_ok hT he
    rw [Bool.and_eq_true] at hf
    exact .cons o l m ⟨fr, rs, ws⟩ fs m' ⟨hf.2, fun q hq Γ hΓ a w hr => h2 (rs ++ q) (sat_self h1 q) hq Γ a w (fun κ hk => by
      cases hx : Γ.pin κ with
      | none => rfl
      | some b => exact absurd (hΓ.2 κ (by rw [hx]; simp)) (pinB_eq hf.2 κ hk)) hr⟩ h1 hf.1 k
  · cases h
theorem opIn_np {F : Fence} {k : Nat} {o : Oper} {a : Act} {w : World} {next : Act → World → Prop} {R : Act → World → Prop} (h : o.wpIn F k P a w next (fun e a w => e = .normal ∧ R a w)) : o.wpIn F k P a w next (fun _ _ _ => False) := by
  refine ⟨h.1, ?_⟩
  have h := h.2
  generalize (o.semAt F.round a.eval).run P w = res at *
  unfold Oper.uponIn at h ⊢
  split at h
  · exact h
  · exact h
  · exact h
  · refine ⟨h.1, h.2.mono fun e w' he => ?_⟩
    cases e with
    | returned v => exact he
    | panicked c => cases he.1
    | outgrown => obtain ⟨a0, w0, h0, _⟩ := he; cases h0
  · exact h
  · refine ⟨h.1, h.2.mono fun e w' he => ?_⟩
    cases e with
    | returned v => exact he
    | panicked c => cases he.1
    | outgrown => obtain ⟨a0, w0, h0, _⟩ := he; cases h0
  · cases h.1
  · exact h.elim
theorem GStp.of {ops : List Oper} {o : Oper} {m m2 : Store} (h : ∀ K : Store → Prop, K m2 → Sq P G n ops [o] m K) : GStp P G n ops.toArray o m m2 := by
  intro Γ hΓ a w hr
  have h1 := h (fun m' => m' = m2) rfl Γ hΓ a w hr (fun e a' w' => e = .normal ∧ RelX P Γ n m2 a' w') (fun m' a' w' e hr' => by subst e; exact ⟨rfl, hr'⟩)
  unfold wpListIn at h1
  split
  · rename_i hw
    rw [if_pos hw] at h1
    exact opIn_mono (fun a' w' h => h.2) (opIn_np h1)
  · rename_i hw
    rw [if_neg hw] at h1
    exact h1.2.2
def rdT (m : Store) : List Operand → Option (List (Loc × AV))
  | [] => some []
  | .tmp t :: r => match lk m (.s t), rdT m r with
    | some v, some rs => some ((.s t, v) :: rs)
    | _, _ => none
  | _ :: r => rdT m r
def rdG (m : Store) (ops : List Oper) (g : Option (Nat × Bool)) (rs : List (Loc × AV)) : Option (List (Loc × AV)) := match g with
  | none => some rs
  | some (j, _) => match dstN ops j with
    | some g => match lk m (.s g) with
      | some v => some ((.s g, v) :: rs)
      | none => none
    | none => none
def locsS : List (Loc × AV) → List Loc → List Loc
  | [], acc => acc
  | (_, v) :: r, acc => locsS r (v.locs acc)
def rdB (m : Store) : List Loc → List (Loc × AV) → Option (List (Loc × AV))
  | [], rs => some rs
  | κ :: r, rs => match lk m κ, rdB m r rs with
    | some v, some rs' => some ((κ, v) :: rs')
    | _, _ => none
def rdO (m : Store) (ops : List Oper) (o : Oper) : Option (List (Loc × AV)) := match rdT m o.op.operands.toList with
  | some rs => match rdG m ops o.guard rs with
    | some rs' => rdB m (locsS rs' []) rs'
    | none => none
  | none => none
theorem rdT_sat : ∀ {xs : List Operand} {rs : List (Loc × AV)}, rdT m xs = some rs → sat rs m
  | [], rs, h => by obtain rfl := Option.some.inj h; trivial
  | x :: r, rs, h => by
    unfold rdT at h
    split at h
    · rename_i e; cases e
    · rename_i t r' e
      obtain ⟨rfl, rfl⟩ := List.cons.inj e
      split at h
      · rename_i v rs' h1 h2
        obtain rfl := Option.some.inj h
        exact ⟨h1, rdT_sat h2⟩
      · cases h
    · rename_i e
      obtain ⟨rfl, rfl⟩ := List.cons.inj e
      exact rdT_sat h
theorem rdB_sat : ∀ {ks : List Loc} {rs rs' : List (Loc × AV)}, rdB m ks rs = some rs' → sat rs m → sat rs' m
  | [], rs, rs', h, hs => by obtain rfl := Option.some.inj h; exact hs
  | κ :: r, rs, rs', h, hs => by
    simp only [rdB] at h
    split at h
    · rename_i v q h1 h2
      obtain rfl := Option.some.inj h
      exact ⟨h1, rdB_sat h2 hs⟩
    · cases h
theorem rdO_sat {ops : List Oper} {o : Oper} {rs : List (Loc × AV)} (h : rdO m ops o = some rs) : sat rs m := by
  unfold rdO at h
  split at h
  · rename_i rs1 h1
    split at h
    · rename_i rs2 h2
      refine rdB_sat h ?_
      unfold rdG at h2
      split at h2
      · obtain rfl := Option.some.inj h2; exact rdT_sat h1
      · split at h2
        · split at h2
          · rename_i v hv
            obtain rfl := Option.some.inj h2; exact ⟨hv, rdT_sat h1⟩
          · cases h2
        · cases h2
    · cases h
  · cases h
theorem zO {ops l : List Oper} {o : Oper} {rs : List (Loc × AV)} {d : Nat} {v : AV} {m' : Store} {fs : List Fp} (hr : rdO m ops o = some rs)
    (hsq : ∀ (q : Store) (K : Store → Prop), K ((.s d, v) :: (rs ++ q)) → Sq P G n ops [o] (rs ++ q) K) (k : DSq P G n ops l ((.s d, v) :: m) fs m') : DSq P G n ops (o :: l) m (⟨[], rs, [(.s d, v)]⟩ :: fs) m' :=
  .cons o l m ⟨[], rs, [(.s d, v)]⟩ fs m' ⟨rfl, fun q _ => GStp.of fun K hK => hsq q K hK⟩ (rdO_sat hr) rfl k
theorem DSq.two {ops l : List Oper} {o : Oper} {rs : List (Loc × AV)} {d s : Nat} {v u : AV} {m' : Store} {fs : List Fp} (hr : rdO m ops o = some rs)
    (hsq : ∀ (q : Store) (K : Store → Prop), K ((.s d, v) :: (.s s, u) :: (rs ++ q)) → Sq P G n ops [o] (rs ++ q) K) (k : DSq P G n ops l ((.s d, v) :: (.s s, u) :: m) fs m') : DSq P G n ops (o :: l) m (⟨[], rs, [(.s d, v), (.s s, u)]⟩ :: fs) m' :=
  .cons o l m ⟨[], rs, [(.s d, v), (.s s, u)]⟩ fs m' ⟨rfl, fun q _ => GStp.of fun K hK => hsq q K hK⟩ (rdO_sat hr) rfl k
theorem Tr.bool {c : Code} {Q : Exit → Store → Prop} {t : Nat} {b : Bool} (hv : lk m (.s t) = some (.tr (.sc (.bool b)))) (ht : b = true → Tr P G n c ((.s t, .tr (.sc (.bool true))) :: m) Q) (hf : b = false → Tr P G n c ((.s t, .tr (.sc (.bool false))) :: m) Q) : Tr P G n c m Q := by
  intro Γ hΓ a w hr
  cases b with
  | true => exact ht rfl Γ hΓ a w (hr.bool hv)
  | false => exact hf rfl Γ hΓ a w (hr.bool hv)
end
end Go.Lg

set_option linter.unusedVariables false
set_option linter.unusedSimpArgs false
namespace Go.Lg
open Go Go.RowKit
def pvS : T → Option Value
  | .sc v => match v.oneCell' with
    | true => some v
    | false => none
  | _ => none
def pvSs : List T → Option (List Value)
  | [] => some []
  | x :: r => match pvS x with
    | some v => match pvSs r with
      | some vs => some (v :: vs)
      | none => none
    | none => none
def pvT : T → Option Value
  | .ag xs => match pvSs xs with
    | some vs => some (.agg vs.toArray)
    | none => none
  | x => pvS x
def pvTs : List AV → Option (List Value)
  | [] => some []
  | .tr t :: r => match pvT t with
    | some v => match pvTs r with
      | some vs => some (v :: vs)
      | none => none
    | none => none
  | _ => none
def pvA : AV → Option Value
  | .tr t => pvT t
  | .tup xs => match pvTs xs with
    | some vs => some (.tuple vs.toArray)
    | none => none
  | _ => none
theorem pvS_eq {t : T} {v : Value} (h : pvS t = some v) : t = .sc v ∧ v.oneCell' = true := by
  cases t with
  | sc u =>
    simp only [pvS] at h
    split at h
    · rename_i hu; obtain rfl := Option.some.inj h; exact ⟨rfl, hu⟩
    · cases h
  | ls xs => cases h
  | ag xs => cases h
theorem pvSs_eq : ∀ {ts : List T} {vs : List Value}, pvSs ts = some vs → ts = vs.map .sc ∧ ∀ v, v ∈ vs → v.oneCell' = true
  | [], vs, h => by obtain rfl := Option.some.inj h; exact ⟨rfl, fun v hv => by cases hv⟩
  | t :: r, vs, h => by
    simp only [pvSs] at h
    split at h
    · rename_i v hv
      split at h
      · rename_i us hu
        obtain rfl := Option.some.inj h
        obtain ⟨rfl, h1⟩ := pvS_eq hv
        obtain ⟨rfl, h2⟩ := pvSs_eq hu
        refine ⟨rfl, fun u hu => ?_⟩
        rcases List.mem_cons.1 hu with rfl | hu
        · exact h1
        · exact h2 u hu
      · cases h
    · cases h
theorem pvT_rep {t : T} {v : Value} (h : pvT t = some v) (w : World) (M : Nat → Nat → Prop) : Rep w M t v ∧ ∀ u, Rep w M t u → u = v := by
  cases t with
  | sc u =>
    obtain ⟨e, h1⟩ := pvS_eq (t := .sc u) h
    cases e
    exact ⟨.sc _ h1, fun u h => by cases h; rfl⟩
  | ls xs => cases h
  | ag xs =>
    simp only [pvT] at h
    split at h
    · rename_i vs hv
      obtain rfl := Option.some.inj h
      obtain ⟨rfl, h1⟩ := pvSs_eq hv
      refine ⟨.ag _ _ (by simp) (fun i v hi => h1 v (List.mem_of_getElem? (by simpa using hi))) (fun i x v hx hv => ?_), fun u hu => ?_⟩
      · simp only [List.getElem?_map] at hx
        have hv' : vs[i]? = some v := by simpa using hv
        rw [hv'] at hx
        obtain rfl : Go.Lg.T.sc v = x := by simpa using hx
        exact .sc v (h1 v (List.mem_of_getElem? hv'))
      · cases hu with
        | ag _ cs hs h2 h3 =>
          congr 1
          apply Array.ext
          · simpa using hs
          · intro i hi1 hi2
            have hi3 : i < vs.length := by simpa using hi2
            have := h3 i (.sc vs[i]) cs[i] (by simp [hi3]) (by simp [hi1])
            rw [show vs.toArray[i] = vs[i] from by simp]
            revert this
            generalize cs[i] = q
            intro this
            cases this
            rfl
    · cases h
theorem pvTs_len : ∀ {xs : List AV} {vs : List Value}, pvTs xs = some vs → vs.length = xs.length
  | [], vs, h => by obtain rfl := Option.some.inj h; rfl
  | .tr t :: r, vs, h => by
    simp only [pvTs] at h
    split at h
    · split at h
      · rename_i us hu
        obtain rfl := Option.some.inj h
        simp [pvTs_len hu]
      · cases h
    · cases h
  | .unk :: _, _, h | .und :: _, _, h | .own _ _ :: _, _, h | .raw _ _ _ :: _, _, h | .rtup _ _ _ _ :: _, _, h | .ptr _ _ :: _, _, h | .sl _ _ _ :: _, _, h | .ep _ _ :: _, _, h | .agg _ :: _, _, h | .tup _ :: _, _, h | .fn _ _ :: _, _, h | .blk _ _ :: _, _, h => by simp [pvTs] at h
theorem pvTs_at : ∀ {xs : List AV} {vs : List Value}, pvTs xs = some vs → ∀ (i : Nat) (x : AV), xs[i]? = some x → ∃ t v, x = .tr t ∧ vs[i]? = some v ∧ pvT t = some v
  | [], vs, h, i, x, hx => by simp at hx
  | .tr t :: r, vs, h, i, x, hx => by
    simp only [pvTs] at h
    split at h
    · rename_i v hv
      split at h
      · rename_i us hu
        obtain rfl := Option.some.inj h
        cases i with
        | zero => simp at hx; exact ⟨t, v, hx.symm, rfl, hv⟩
        | succ i => simp at hx; obtain ⟨t', v', h1, h2, h3⟩ := pvTs_at hu i x hx; exact ⟨t', v', h1, by simpa using h2, h3⟩
      · cases h
    · cases h
  | .unk :: _, _, h, _, _, _ | .und :: _, _, h, _, _, _ | .own _ _ :: _, _, h, _, _, _ | .raw _ _ _ :: _, _, h, _, _, _ | .rtup _ _ _ _ :: _, _, h, _, _, _ | .ptr _ _ :: _, _, h, _, _, _ | .sl _ _ _ :: _, _, h, _, _, _ | .ep _ _ :: _, _, h, _, _, _ | .agg _ :: _, _, h, _, _, _ | .tup _ :: _, _, h, _, _, _ | .fn _ _ :: _, _, h, _, _, _ | .blk _ _ :: _, _, h, _, _, _ => by simp [pvTs] at h
theorem pvA_srel {P : Program} {x : AV} {v : Value} (h : pvA x = some v) (w : World) (M : Nat → Nat → Prop) (Ow : Loc → Nat → Option Nat) (o : Option Nat) : SRel P w M Ow x v o := by
  cases x with
  | tr t => exact VRel.tr _ _ (pvT_rep h w M).1
  | tup xs =>
    simp only [pvA] at h
    split at h
    · rename_i vs hv
      obtain rfl := Option.some.inj h
      refine VRel.tup xs _ (by simp [pvTs_len hv]) fun i x v hx hi => ?_
      obtain ⟨t, u, rfl, hu, ht⟩ := pvTs_at hv i x hx
      have : u = v := by have hi' : vs[i]? = some v := by simpa using hi
                         rw [hu] at hi'; exact Option.some.inj hi'
      subst this
      exact .tr _ _ (pvT_rep ht w M).1
    · cases h
  | _ => cases h
theorem Fn.args_eq {P : Program} {M : Nat → Nat → Prop} {Ow : Loc → Nat → Option Nat} {args : List AV} {H : Store} {cargs : Array Value} {w : World} {vs : List Value} (hvs : pvTs args = some vs) (hp : CPre P M Ow args H cargs w) : cargs = vs.toArray := by
  apply Array.ext
  · rw [hp.size]; simp [pvTs_len hvs]
  · intro i hi1 hi2
    have hi3 : i < args.length := by rw [← hp.size]; exact hi1
    obtain ⟨t, u, e1, hu, ht⟩ := pvTs_at hvs i args[i] (by simp [hi3])
    have hv := hp.arg i args[i] cargs[i] (by simp [hi3]) (by simp [hi1])
    rw [e1] at hv
    cases hv with
    | tr _ _ hv =>
      rw [(pvT_rep ht w M).2 _ hv]
      have : vs[i]? = some vs[i] := by simp
      rw [this] at hu
      simpa using (Option.some.inj hu).symm
theorem Fn.of_calls {P : Program} {G : World → Prop} {f : FuncId} {fn : Func} {args : List AV} {vs : List Value} {H : Store} {r : AV} {v : Value} (hf : P.funcs[f]? = some fn) (hname : (fn.name == "runtime.NumGoroutine") = false) (hb : fn.body.isNone = false)
    (hvs : pvTs args = some vs) (hr : pvA r = some v) (h : ∀ w, G w → Calls P f vs.toArray w fun e w' => e = .returned v ∧ Below w.heap.size w w') : Fn P G f args H (· = r) := by
  refine ⟨⟨fn, hf, hname, hb⟩, fun M Ow w cargs hgw hp => ?_⟩
  rw [Fn.args_eq hvs hp]
  exact (h w hgw).mono fun e w' ⟨he, hb⟩ => ⟨v, he, hb, M, r, none, rfl, fun _ _ h => h, fun _ _ h => .inl h, fun b k h => Nat.lt_of_lt_of_le (hp.mlt b k h) hb.size, (fun b e => nomatch e), pvA_srel hr w' M _ none⟩
theorem pvA_uniq {P : Program} {r : AV} {v cv : Value} {w : World} {M : Nat → Nat → Prop} {Ow : Loc → Nat → Option Nat} {o : Option Nat} (hr : pvA r = some v) (hs : SRel P w M Ow r cv o) : cv = v := by
  cases r with
  | tr t =>
    have hs : VRel w M (fun κ => Ow κ 0) (.tr t) cv := hs
    cases hs with
    | tr _ _ hs => exact (pvT_rep hr w M).2 _ hs
  | tup xs =>
    have hs : VRel w M (fun κ => Ow κ 0) (.tup xs) cv := hs
    simp only [pvA] at hr
    split at hr
    · rename_i us hus
      obtain rfl := Option.some.inj hr
      cases hs with
      | tup _ cs h1 h2 =>
        congr 1
        apply Array.ext
        · rw [h1]; simp [pvTs_len hus]
        · intro i hi1 hi2
          have hi3 : i < xs.length := by rw [← h1]; exact hi1
          obtain ⟨t, u, e1, hu, ht⟩ := pvTs_at hus i xs[i] (by simp [hi3])
          have hv := h2 i xs[i] cs[i] (by simp [hi3]) (by simp [hi1])
          rw [e1] at hv
          cases hv with
          | tr _ _ hv =>
            rw [(pvT_rep ht w M).2 _ hv]
            have : us[i]? = some us[i] := by simp
            rw [this] at hu
            simpa using (Option.some.inj hu).symm
    · cases hr
  | _ => cases hr
theorem Fn.calls {P : Program} {G : World → Prop} {f : FuncId} {args : List AV} {vs : List Value} {r : AV} {v : Value} (h : Fn P G f args [] (· = r)) (hvs : pvTs args = some vs) (hr : pvA r = some v) (w : World) (hG : G w) :
    Calls P f vs.toArray w fun e w' => e = .returned v ∧ Below w.heap.size w w' := by
  have hp : CPre P (fun _ _ => False) (fun _ _ => none) args [] vs.toArray w := by
    refine { size := by simp [pvTs_len hvs], arg := fun i x u hx hu => ?_, blk := fun κ v h => (nomatch h), only := fun _ _ _ h => (nomatch h), inj := fun _ _ _ _ _ h => (nomatch h), lt := fun _ _ _ h => (nomatch h), mlt := fun _ _ h => False.elim h }
    obtain ⟨t, u', rfl, hu', ht⟩ := pvTs_at hvs i x hx
    obtain rfl : u' = u := by have hu2 : vs[i]? = some u := by simpa using hu
                              rw [hu'] at hu2; exact Option.some.inj hu2
    exact .tr _ _ (pvT_rep ht w _).1
  refine (h.2 (fun _ _ => False) (fun _ _ => none) w vs.toArray hG hp).mono ?_
  · rintro e w' ⟨cv, rfl, hb, M', r', o, rfl, -, -, -, -, hs⟩
    exact ⟨by rw [pvA_uniq hr hs], hb⟩
theorem fresh_post {P : Program} {M : Nat → Nat → Prop} {Ow : Loc → Nat → Option Nat} {args : List AV} {H : Store} {cargs : Array Value} {w : World} (hp : CPre P M Ow args H cargs w) {ty : TypeId} {i : _} (hi : P.info? ty = some i) (hs : i.size = 1) {vs : List Value} (h1 : ∀ v, v ∈ vs → v.oneCell' = true) :
    CPost P M (· = .own ty (vs.map .sc)) w (.slice (some ⟨w.heap.size, 0, none⟩) vs.length vs.length) (w.alloc (.cells vs.toArray ty)) := by
  refine ⟨(Below.refl _ _).alloc (Nat.le_refl _) _, fun b k => M b k ∨ (b = w.heap.size ∧ k < vs.length), _, some w.heap.size, rfl, fun _ _ h => .inl h, ?_, ?_, ?_, i, hi, ?_, .inr ⟨w.heap.size, 0, vs.length, vs.toArray, rfl, by simp, ?_, ?_, ?_, ?_, ?_, ?_⟩⟩
  · rintro b k (h | ⟨rfl, _⟩)
    · exact .inl h
    · exact .inr (Nat.le_refl _)
  · rintro b k (h | ⟨rfl, _⟩)
    · have := hp.mlt b k h; simp; omega
    · simp
  · intro b hb; obtain rfl := Option.some.inj hb; simp
  · intro x hx
    obtain ⟨v, _, rfl⟩ := List.mem_map.1 hx
    rw [hs]; rfl
  · have hrep : ∀ (k : Nat), k < vs.length → (w.alloc (.cells vs.toArray ty)).cell? ⟨w.heap.size, k, none⟩ = some (vs.getD k undef) := by
      intro k hk
      have := World.alloc_heap_new w (.cells vs.toArray ty)
      unfold World.cell?
      simp only [this]
      simp [hk]
    have hlen : (vs.map Go.Lg.T.sc).length = vs.length := by simp
    have := Rep.ls (w := w.alloc (.cells vs.toArray ty)) (M := fun b k => M b k ∨ (b = w.heap.size ∧ k < vs.length)) (vs.map .sc) w.heap.size 0 1 vs.length (fun i j => vs.getD (i + j) undef) (by simp) (fun x hx => by
        obtain ⟨v, _, rfl⟩ := List.mem_map.1 hx; rfl) (fun i j hi hj => .inr ⟨rfl, by simp at hi; omega⟩) (fun i j hi hj => by
        have hi' : i < vs.length := by simpa using hi
        obtain rfl : j = 0 := by omega
        have := hrep i hi'
        simpa using this) (fun i j hi hj => by
        have hi' : i < vs.length := by simpa using hi
        obtain rfl : j = 0 := by omega
        simp only [Nat.add_zero, List.getD_eq_getElem?_getD, List.getElem?_eq_getElem hi', Option.getD_some]
        exact h1 _ (List.getElem_mem hi')) (fun i j x y hx hy => by
        rw [List.getElem?_map] at hx
        obtain ⟨v, hv, rfl⟩ := Option.map_eq_some_iff.1 hx
        cases j with
        | zero =>
          obtain rfl : Go.Lg.T.sc v = y := by simpa [T.cells] using hy
          simp only [Nat.add_zero, List.getD_eq_getElem?_getD, hv, Option.getD_some]
          exact .sc v (h1 v (List.mem_of_getElem? hv))
        | succ j => simp [T.cells] at hy)
    simpa using this
  · exact World.alloc_heap_new w _
  · simp [hs]
  · simp
  · intro k hk hM
    rcases hM with h | ⟨_, h⟩
    · exact Nat.lt_irrefl _ (hp.mlt _ _ h)
    · simp [hs] at hk; omega
  · intro k u hu
    exact h1 u (by simpa using List.mem_of_getElem? (show vs[k]? = some u by simpa using hu))
end Go.Lg

set_option linter.unusedVariables false
set_option linter.unusedSimpArgs false
namespace Go.Lg
open Go Go.RowKit
section
variable {P : Program} {G : Env} {n : Nat} {tab : Tab} {m : Store}
abbrev byteT (b : UInt8) : T := .sc (.int .u8 b.toNat)
def evByte (tab : Tab) (n : Nat) (ops : List Oper) (o : Oper) (m : Store) : Option (ByteArray × Int × Nat) := match o.op, o.dst, gOk m ops o.guard with
  | .index t x i, some d, true => match Nat.blt d n, tlk tab t with
    | true, some ⟨_, _, .str, _⟩ => match opV m x, opV m i with
      | some (.tr (.sc (.string s))), some (.tr (.sc (.int _ j))) => some (s, j, d)
      | _, _ => none
    | _, _ => none
  | _, _, _ => none
theorem Sq.byte {ops l : List Oper} {o : Oper} {s : ByteArray} {j : Int} {d : Nat} {b : UInt8} {K : Store → Prop} (hT : TabOk P tab) (h : evByte tab n ops o m = some (s, j, d)) (h0 : 0 ≤ j) (h1 : s.data.toList[j.toNat]? = some b)
    (k : Sq P G n ops l ((.s d, .tr (byteT b)) :: m) K) : Sq P G n ops (o :: l) m K := by
  obtain ⟨dst, op, type, pos, after, guard⟩ := o
  unfold evByte at h
  simp only at h
  split at h
  · rename_i t x i d' hgd
    split at h
    · rename_i hlt ht
      split at h
      · rename_i s' ik j' hx hi
        simp only [Option.some.injEq, Prod.mk.injEq] at h
        obtain ⟨rfl, rfl, rfl⟩ := h
        refine Sq.do hgd (fun Γ M Ow a w hr => ?_) k
        obtain ⟨q1, hq1⟩ := opV_ok hx hr
        obtain ⟨q2, hq2⟩ := opV_ok hi hr
        have hu := hT.str ht rfl
        have hlt' : j'.toNat < s'.size := by
          have := (List.getElem?_eq_some_iff.1 h1).1
          simpa using this
        have hb : (s'[j'.toNat]'hlt') = b := by
          have := (List.getElem?_eq_some_iff.1 h1).2
          simpa [ByteArray.getElem_eq_getElem_data] using this
        have hin : 0 ≤ j' ∧ j' < s'.size := ⟨h0, by omega⟩
        refine ⟨.int .u8 b.toNat, w, ?_, M, Ow, hr.put (Nat.lt_of_succ_le (Nat.le_of_ble_eq_true hlt)) (.tr _ _ (.sc _ rfl))⟩
        simp [execOp, (sc_eval (Γ := Γ) hq1).1, (sc_eval (Γ := Γ) hq2).1, run_index_string w t s' ik j' hu, hin, hb]
      · cases h
    · cases h
  · cases h
def evBytes (tab : Tab) (n : Nat) (ops : List Oper) (o : Oper) (m : Store) : Option (ByteArray × Nat) := match o.op, o.dst, gOk m ops o.guard with
  | .convert src dst x, some d, true => match Nat.blt d n, tlk tab src, tlk tab dst with
    | true, some ⟨_, _, .str, _⟩, some ⟨_, _, .slice e, _⟩ => match tlk tab e, opV m x with
      | some ⟨_, _, .int .u8, _⟩, some (.tr (.sc (.string s))) => some (s, d)
      | _, _ => none
    | _, _, _ => none
  | _, _, _ => none
theorem Sq.bytes {ops l : List Oper} {o : Oper} {s : ByteArray} {d : Nat} {K : Store → Prop} (hT : TabOk P tab) (h : evBytes tab n ops o m = some (s, d))
    (k : Sq P G n ops l ((.s d, .tr (.ls (s.data.toList.map byteT))) :: m) K) : Sq P G n ops (o :: l) m K := by
  obtain ⟨dst, op, type, pos, after, guard⟩ := o
  unfold evBytes at h
  simp only at h
  split at h
  · rename_i src dst' x d' hgd
    split at h
    · rename_i e z hlt hsrc hdst
      split at h
      · rename_i s' he hx
        simp only [Option.some.injEq, Prod.mk.injEq] at h
        obtain ⟨rfl, rfl⟩ := h
        refine Sq.do hgd (fun Γ M Ow a w hr => ?_) k
        obtain ⟨q1, hq1⟩ := opV_ok hx hr
        have hu1 := hT.str hsrc rfl
        have hu2 := hT.slice hdst rfl
        have hu3 := hT.int he rfl
        have hbel : Below w.heap.size w (Lib.bytesWorld w e s') := ⟨rfl, rfl, rfl, by rw [Lib.bytesWorld_size]; omega, fun j hj => Lib.bytesWorld_at_old w e s' j hj⟩
        have hx := hr.ext (w' := Lib.bytesWorld w e s') (M' := fun b k => M b k ∨ (b = w.heap.size ∧ k < s'.size)) hbel (fun _ _ h => .inl h) (by
          rintro b k (h | ⟨rfl, _⟩)
          · exact .inl h
          · exact .inr (Nat.le_refl _)) (by
          rintro b k (h | ⟨rfl, _⟩)
          · rw [Lib.bytesWorld_size]; have := hr.mlt b k h; omega
          · rw [Lib.bytesWorld_size]; omega)
        have hlen : (s'.data.toList.map byteT).length = s'.size := by simp
        have hcap : s'.size ≤ grownCap w s'.size 0 e := by
          have := grownCap_ge w s'.size 0 e; omega
        have hrep := Rep.ls (w := Lib.bytesWorld w e s') (M := fun b k => M b k ∨ (b = w.heap.size ∧ k < s'.size)) (s'.data.toList.map byteT) w.heap.size 0 1 (grownCap w s'.size 0 e) (fun i j => .int .u8 (s'.data.toList.getD (i + j) 0).toNat)
          (by rw [hlen]; exact hcap) (fun x hx => by obtain ⟨v, _, rfl⟩ := List.mem_map.1 hx; rfl) (fun i j hi hj => .inr ⟨rfl, by rw [hlen] at hi; omega⟩)
          (fun i j hi hj => by
            rw [hlen] at hi
            obtain rfl : j = 0 := by omega
            have := Lib.bytesWorld_cell w e s' i hi
            simpa using this) (fun i j hi hj => rfl) (fun i j x y hx hy => by
            rw [List.getElem?_map] at hx
            obtain ⟨v, hv, rfl⟩ := Option.map_eq_some_iff.1 hx
            cases j with
            | zero =>
              obtain rfl : byteT v = y := by simpa [T.cells] using hy
              simp only [Nat.add_zero, List.getD_eq_getElem?_getD, hv, Option.getD_some]
              exact .sc _ rfl
            | succ j => simp [T.cells] at hy)
        rw [hlen] at hrep
        refine ⟨_, _, ?_, _, Ow, hx.put (Nat.lt_of_succ_le (Nat.le_of_ble_eq_true hlt)) (.tr _ _ hrep)⟩
        simp [execOp, (sc_eval (Γ := Γ) hq1).1, Lib.run_convert_string_bytes w src dst' e s' hu1 hu2 hu3]
      · cases h
    · cases h
  · cases h
def strCmp (op : BinOp) (x y : ByteArray) : Option Bool := match op with
  | .lss => some (Op.bytesLess x.toList y.toList)
  | .leq => some (Op.bytesLess x.toList y.toList || x.toList == y.toList)
  | .gtr => some (!(Op.bytesLess x.toList y.toList || x.toList == y.toList))
  | .geq => some (!(Op.bytesLess x.toList y.toList))
  | _ => none
def evStr (n : Nat) (ops : List Oper) (o : Oper) (m : Store) : Option (Bool × Nat) := match o.op, o.dst, gOk m ops o.guard with
  | .binOp op _ x y _, some d, true => match Nat.blt d n, opV m x, opV m y with
    | true, some (.tr (.sc (.string s))), some (.tr (.sc (.string t))) => match strCmp op s t with
      | some b => some (b, d)
      | none => none
    | _, _, _ => none
  | _, _, _ => none
theorem Sq.strcmp {ops l : List Oper} {o : Oper} {b : Bool} {d : Nat} {K : Store → Prop} (h : evStr n ops o m = some (b, d)) (k : Sq P G n ops l ((.s d, .tr (.sc (.bool b))) :: m) K) : Sq P G n ops (o :: l) m K := by
  obtain ⟨dst, op, type, pos, after, guard⟩ := o
  unfold evStr at h
  simp only at h
  split at h
  · rename_i op' ty x y ty' d' hgd
    split at h
    · rename_i s' t' hlt hx hy
      split at h
      · rename_i b' hb
        simp only [Option.some.injEq, Prod.mk.injEq] at h
        obtain ⟨rfl, rfl⟩ := h
        refine Sq.do hgd (fun Γ M Ow a w hr => ?_) k
        obtain ⟨q1, hq1⟩ := opV_ok hx hr
        obtain ⟨q2, hq2⟩ := opV_ok hy hr
        refine ⟨.bool b', w, ?_, M, Ow, hr.put (Nat.lt_of_succ_le (Nat.le_of_ble_eq_true hlt)) (.tr _ _ (.sc _ rfl))⟩
        unfold strCmp at hb
        split at hb <;> first | (obtain rfl := Option.some.inj hb; simp [execOp, (sc_eval (Γ := Γ) hq1).1, (sc_eval (Γ := Γ) hq2).1, eqGuard, binOp, Op.stringOp]; done) | (cases hb; done)
      · cases h
    · cases h
  · cases h
def evMM (n : Nat) (ops : List Oper) (o : Oper) (m : Store) : Option (IntKind × Int × Nat) := match o.op, o.dst, gOk m ops o.guard with
  | .call c, some d, true => match Nat.blt d n, c.callee, c.args.toList with
    | true, .builtin .min, [x, y] => match opV m x, opV m y with
      | some (.tr (.sc (.int k a))), some (.tr (.sc (.int _ b))) => some (k, if b < a then b else a, d)
      | _, _ => none
    | true, .builtin .max, [x, y] => match opV m x, opV m y with
      | some (.tr (.sc (.int k a))), some (.tr (.sc (.int _ b))) => some (k, if b > a then b else a, d)
      | _, _ => none
    | _, _, _ => none
  | _, _, _ => none
theorem Sq.minmax {ops l : List Oper} {o : Oper} {k : IntKind} {z : Int} {d : Nat} {K : Store → Prop} (h : evMM n ops o m = some (k, z, d)) (kk : Sq P G n ops l ((.s d, .tr (.sc (.int k z))) :: m) K) : Sq P G n ops (o :: l) m K := by
  obtain ⟨dst, op, type, pos, after, guard⟩ := o
  unfold evMM at h
  simp only at h
  split at h
  · rename_i c d' hgd
    obtain ⟨callee, args, argTypes⟩ := c
    split at h
    · rename_i x y hlt hc ha
      split at h
      · rename_i k' a' k'' b' hx hy
        simp only [Option.some.injEq, Prod.mk.injEq] at h
        obtain ⟨rfl, rfl, rfl⟩ := h
        simp only at hc ha
        subst hc
        obtain rfl : args = #[x, y] := by apply Array.ext'; exact ha
        refine Sq.do hgd (fun Γ M Ow a w hr => ?_) kk
        obtain ⟨q1, hq1⟩ := opV_ok hx hr
        obtain ⟨q2, hq2⟩ := opV_ok hy hr
        refine ⟨_, w, ?_, M, Ow, hr.put (Nat.lt_of_succ_le (Nat.le_of_ble_eq_true hlt)) (.tr _ _ (.sc _ rfl))⟩
        have e1 := (sc_eval (P := P) (Γ := Γ) hq1).1
        have e2 := (sc_eval (P := P) (Γ := Γ) hq2).1
        generalize a.eval = ρ at e1 e2
        simp [go_sem, execOp, e1, e2]
      · cases h
    · rename_i x y hlt hc ha
      split at h
      · rename_i k' a' k'' b' hx hy
        simp only [Option.some.injEq, Prod.mk.injEq] at h
        obtain ⟨rfl, rfl, rfl⟩ := h
        simp only at hc ha
        subst hc
        obtain rfl : args = #[x, y] := by apply Array.ext'; exact ha
        refine Sq.do hgd (fun Γ M Ow a w hr => ?_) kk
        obtain ⟨q1, hq1⟩ := opV_ok hx hr
        obtain ⟨q2, hq2⟩ := opV_ok hy hr
        refine ⟨_, w, ?_, M, Ow, hr.put (Nat.lt_of_succ_le (Nat.le_of_ble_eq_true hlt)) (.tr _ _ (.sc _ rfl))⟩
        have e1 := (sc_eval (P := P) (Γ := Γ) hq1).1
        have e2 := (sc_eval (P := P) (Γ := Γ) hq2).1
        generalize a.eval = ρ at e1 e2
        simp [go_sem, execOp, e1, e2]
      · cases h
    · cases h
  · cases h
theorem Sq.callv {ops l : List Oper} {o : Oper} {f : FuncId} {args : List AV} {H : Store} {d : Option Nat} {v : AV} {K : Store → Prop} (h : evCall n ops o m = some (f, args, H, d)) (hf : Fn P G.st f args H (· = v))
    (k : Sq P G n ops l (putO d v m) K) : Sq P G n ops (o :: l) m K := zL h hf fun r e => e ▸ k
theorem DSq.call {ops l : List Oper} {o : Oper} {rs : List (Loc × AV)} {f : FuncId} {args : List AV} {H : Store} {d : Nat} {v : AV} {m' : Store} {fs : List Fp} (hr : rdO m ops o = some rs) (hc : ∀ q, evCall n ops o (rs ++ q) = some (f, args, H, some d))
    (hf : Fn P G.st f args H (· = v)) (k : DSq P G n ops l ((.s d, v) :: m) fs m') : DSq P G n ops (o :: l) m (⟨[], rs, [(.s d, v)]⟩ :: fs) m' :=
  zO hr (fun q K hK => Sq.callv (hc q) hf (zN hK)) k
end
section
variable {P : Program} {d : Nat} {xs ys : Array Value} {f : Field} {fs : List Field} {a b : Value} {r s : Bool} {w : World}
theorem eqf_last (hn : (f.name == "_") = false) (ha : (part f.type xs f.offset).run P w = .ok a w) (hb : (part f.type ys f.offset).run P w = .ok b w) (he : (Op.equalIn d f.type a b).run P w = .ok r w) : (Op.eqFields d xs ys [f]).run P w = .ok r w := by
  have hn' : f.name ≠ "_" := by simpa using hn
  simp only [Op.eqFields, if_pos hn', Sem.run_bind, ha, hb, he, Result.andThen_ok]
  cases r <;> simp
theorem eqf_cons (hn : (f.name == "_") = false) (ha : (part f.type xs f.offset).run P w = .ok a w) (hb : (part f.type ys f.offset).run P w = .ok b w) (he : (Op.equalIn d f.type a b).run P w = .ok r w) (hr : (Op.eqFields d xs ys fs).run P w = .ok s w) : (Op.eqFields d xs ys (f :: fs)).run P w = .ok (r && s) w := by
  have hn' : f.name ≠ "_" := by simpa using hn
  rw [Op.eqFields]
  simp only [if_pos hn', Sem.run_bind, ha, hb, he, Result.andThen_ok]
  cases r
  · simp
  · simpa using hr
theorem eqA_of {t : TypeId} {fs : Array Field} (hu : P.underlying t = some (.struct fs)) (hp : P.stoodInHeld t = false) (h : (Op.eqFields d xs ys fs.toList).run P w = .ok r w) : (Op.equalIn (d + 1) t (.agg xs) (.agg ys)).run P w = .ok r w := by
  have hf : P.fieldsOf t = fs := by simp [Program.fieldsOf, hu]
  rw [run_equalIn_struct (P := P) w d t xs ys (by rw [hf]; exact hu) hp, hf]
  exact h
end
section
variable {P : Program} {G : Env} {n : Nat} {tab : Tab} {m : Store}
def eqSg (sg b : Bool) : Bool := match sg with
  | true => b
  | false => !b
@[simp] theorem eqSg_t (b : Bool) : eqSg true b = b := rfl
@[simp] theorem eqSg_f (b : Bool) : eqSg false b = !b := rfl
def evEq (n : Nat) (ops : List Oper) (o : Oper) (m : Store) : Option (TypeId × List Value × List Value × Bool × Nat) := match o.op, o.dst, gOk m ops o.guard with
  | .binOp .eql t x y _, some d, true => match Nat.blt d n, opV m x, opV m y with
    | true, some (.tr (.ag s)), some (.tr (.ag u)) => match scAll s, scAll u with
      | some vs, some us => some (t, vs, us, true, d)
      | _, _ => none
    | _, _, _ => none
  | .binOp .neq t x y _, some d, true => match Nat.blt d n, opV m x, opV m y with
    | true, some (.tr (.ag s)), some (.tr (.ag u)) => match scAll s, scAll u with
      | some vs, some us => some (t, vs, us, false, d)
      | _, _ => none
    | _, _, _ => none
  | _, _, _ => none
theorem ag_eval {w : World} {M : Nat → Nat → Prop} {Ow : Loc → Nat → Option Nat} {ts : List T} {vs : List Value} {v : Value} {o : Option Nat} (hs : scAll ts = some vs) (h : SRel P w M Ow (.tr (.ag ts)) v o) : v = .agg vs.toArray :=
  valO_ok (v := .tr (.ag ts)) (by simp [valO, hs]) h
theorem Sq.eqag {ops l : List Oper} {o : Oper} {t : TypeId} {vs us : List Value} {b sg : Bool} {d : Nat} {K : Store → Prop} (h : evEq n ops o m = some (t, vs, us, sg, d)) (hG : P.eqGuardType P.depth t = false) (he : ∀ w, (Op.equalIn 10000 t (.agg vs.toArray) (.agg us.toArray)).run P w = .ok b w)
    (k : Sq P G n ops l ((.s d, .tr (.sc (.bool (eqSg sg b)))) :: m) K) : Sq P G n ops (o :: l) m K := by
  obtain ⟨dst, op, type, pos, after, guard⟩ := o
  unfold evEq at h
  simp only at h
  split at h
  · rename_i t' x y ty' d' hgd
    split at h
    · rename_i s' u' hlt hx hy
      split at h
      · rename_i vs' us' h1 h2
        simp only [Option.some.injEq, Prod.mk.injEq] at h
        obtain ⟨rfl, rfl, rfl, rfl, rfl⟩ := h
        refine Sq.do hgd (fun Γ M Ow a w hr => ?_) k
        obtain ⟨q1, hq1⟩ := opV_ok hx hr
        obtain ⟨q2, hq2⟩ := opV_ok hy hr
        refine ⟨.bool b, w, ?_, M, Ow, hr.put (Nat.lt_of_succ_le (Nat.le_of_ble_eq_true hlt)) (.tr _ _ (.sc _ rfl))⟩
        simp [execOp, ag_eval h1 hq1, ag_eval h2 hq2, run_eqGuard_agg w _ _ _ _ _ _ hG, run_eql_struct, he]
      · cases h
    · cases h
  · rename_i t' x y ty' d' hgd
    split at h
    · rename_i s' u' hlt hx hy
      split at h
      · rename_i vs' us' h1 h2
        simp only [Option.some.injEq, Prod.mk.injEq] at h
        obtain ⟨rfl, rfl, rfl, rfl, rfl⟩ := h
        refine Sq.do hgd (fun Γ M Ow a w hr => ?_) k
        obtain ⟨q1, hq1⟩ := opV_ok hx hr
        obtain ⟨q2, hq2⟩ := opV_ok hy hr
        refine ⟨.bool (!b), w, ?_, M, Ow, hr.put (Nat.lt_of_succ_le (Nat.le_of_ble_eq_true hlt)) (.tr _ _ (.sc _ rfl))⟩
        simp [execOp, ag_eval h1 hq1, ag_eval h2 hq2, run_eqGuard_agg w _ _ _ _ _ _ hG, run_neq_struct, he]
      · cases h
    · cases h
  · cases h
theorem DSq.eqag {ops l : List Oper} {o : Oper} {rs : List (Loc × AV)} {t : TypeId} {vs us : List Value} {b sg : Bool} {d : Nat} {m' : Store} {fs : List Fp} (hr : rdO m ops o = some rs) (hc : ∀ q, evEq n ops o (rs ++ q) = some (t, vs, us, sg, d))
    (hG : P.eqGuardType P.depth t = false) (he : ∀ w, (Op.equalIn 10000 t (.agg vs.toArray) (.agg us.toArray)).run P w = .ok b w) (k : DSq P G n ops l ((.s d, .tr (.sc (.bool (eqSg sg b)))) :: m) fs m') :
    DSq P G n ops (o :: l) m (⟨[], rs, [(.s d, .tr (.sc (.bool (eqSg sg b))))]⟩ :: fs) m' :=
  zO hr (fun q K hK => Sq.eqag (hc q) hG he (zN hK)) k
end
end Go.Lg
