/- Three new structs that are filled one behind the other: an order that is left open. -/
import Derived.Test.YtkilaemngejplaaDoorQn
import Derived.Test.YtkilaemngejplaaDoorV2
import Derived.Lib.Hide
set_option linter.unusedSimpArgs false
set_option linter.unusedVariables false
namespace Go.Proofs.YtkilaemngejplaaDoor
open Go.RowKit Go.Lib Go.Shelf Go.Proofs.YtkilaemngejplaaDoorW.PrintWords Go.Proofs.YtkilaemngejplaaDoorW.PrintLast

abbrev zeroC : Array Value := #[.int .i64 0, .int .i64 0, .int .i64 0, .string (⟨#[]⟩ : ByteArray)]
theorem run_alloc25 (a : Act) (o : Oper) (ho : o.op = .alloc 25) (W : World) : (execOp a.eval o).run Tryd.prog W = .ok (.value (.pointer (some ⟨W.heap.size, 0, none⟩))) (W.alloc (.cells zeroC 25 (0, 0))) := by
  unfold execOp
  rw [ho]
  first | (go_simp; done) | (go_simp; rfl)
theorem run_store25 (a : Act) (o : Oper) (p v : Operand) (ho : o.op = .store 25 p v) (W : World) (g : Nat) (x y z : Int) (s : ByteArray) (m0 m1 m2 : Int) (m3 : ByteArray) (hp : a.eval p = .pointer (some ⟨g, 0, none⟩)) (hv : a.eval v = .agg #[.int .i64 m0, .int .i64 m1, .int .i64 m2, .string m3]) (hg : W.heap[g]? = some (.cells #[.int .i64 x, .int .i64 y, .int .i64 z, .string s] 25 (0, 0))) :
    ∃ W', (execOp a.eval o).run Tryd.prog W = .ok .skip W' ∧ W'.heap[g]? = some (.cells #[.int .i64 m0, .int .i64 m1, .int .i64 m2, .string m3] 25 (0, 0)) ∧ (∀ h, h ≠ g → W'.heap[h]? = W.heap[h]?) ∧ (∀ b w, b = w.heap.size → Below b w W → b ≤ g → Below b w W') := by
  have c0 : W.cell? ⟨g, 0, none⟩ = some (.int .i64 x) := (blk_cell hg 0).trans rfl
  have c1 : W.cell? ⟨g, 1, none⟩ = some (.int .i64 y) := (blk_cell hg 1).trans rfl
  have c2 : W.cell? ⟨g, 2, none⟩ = some (.int .i64 z) := (blk_cell hg 2).trans rfl
  have c3 : W.cell? ⟨g, 3, none⟩ = some (.string s) := (blk_cell hg 3).trans rfl
  have f0 := blk_frozen hg 0
  have f1 := blk_frozen hg 1
  have f2 := blk_frozen hg 2
  have f3 := blk_frozen hg 3
  refine ⟨(((W.setCell ⟨g, 0, none⟩ (.int .i64 m0)).setCell ⟨g, 1, none⟩ (.int .i64 m1)).setCell ⟨g, 2, none⟩ (.int .i64 m2)).setCell ⟨g, 3, none⟩ (.string m3), ?_, ?_, ?_, ?_⟩
  · unfold execOp
    rw [ho]
    generalize a.eval = ev at *
    go_simp

  · exact blk_set (blk_set (blk_set (blk_set hg 0 _) 1 _) 2 _) 3 _
  · intro h hh
    iterate 4 rw [Below.heap_setCell _ _ _ _ hh]
  · rintro b w rfl hb hg'
    exact below_set (below_set (below_set (below_set hb hg') hg') hg') hg'
theorem put_comm (a : Act) (i j : Tmp) (h : i ≠ j) (u v : Value) : (a.put (some i) u).put (some j) v = (a.put (some j) v).put (some i) u := by
  simp only [Act.put, Array.setIfInBounds_comm _ _ h]
section
variable {P : Program} {ops : Array Oper} {Q : Exit → Act → World → Prop} {S : World → Prop} {ds : List Nat}
theorem ev_ {o : Oper} {N : Tmp} {a : Act} {Kc : Act → World → Prop} {W w1 : World} {v : Value} (hd : o.dst = some N) (hw : Region.wanted o (yielded ops a.tmps) = true) (hrun : (execOp a.eval o).run P W = .ok (.value v) w1) (h : Kc (a.put (some N) v) w1) : if Region.wanted o (yielded ops a.tmps) = true then Oper.wp P o a W Kc Q else Kc (a.put (some N) undef) W := by
  rw [← hd] at h ⊢
  exact event_step hw hrun h
@[reducible] def ptr (g : Nat) : Value := .pointer (some ⟨g, 0, none⟩)
/-- Three allocations in any order: the world is one, the places are turned round. -/
theorem alloc3 {i j k : Nat} {oi oj ok : Oper} {Ni Nj Nk : Tmp} {c : Obj} {l li lj lk lij lik ljk m : Array Bool} {a : Act} {w : World} {n : Nat}
    (hi : ops[i]? = some oi) (hj : ops[j]? = some oj) (hk : ops[k]? = some ok) (di : oi.dst = some Ni) (dj : oj.dst = some Nj) (dk : ok.dst = some Nk)
    (gi : oi.guard = none) (gj : oj.guard = none) (gk : ok.guard = none) (hij : Ni ≠ Nj) (hik : Ni ≠ Nk) (hjk : Nj ≠ Nk)
    (ri : ∀ (a : Act) (W : World), (execOp a.eval oi).run P W = .ok (.value (ptr W.heap.size)) (W.alloc c)) (rj : ∀ (a : Act) (W : World), (execOp a.eval oj).run P W = .ok (.value (ptr W.heap.size)) (W.alloc c)) (rk : ∀ (a : Act) (W : World), (execOp a.eval ok).run P W = .ok (.value (ptr W.heap.size)) (W.alloc c))
    (ni : i ∉ ds) (nj : j ∉ ds) (nk : k ∉ ds)
    (h3 : (Region.ready .any ops l == [i, j, k] && l.setIfInBounds i true == li && l.setIfInBounds j true == lj && l.setIfInBounds k true == lk) = true)
    (hi2 : (Region.ready .any ops li == [j, k] && li.setIfInBounds j true == lij && li.setIfInBounds k true == lik) = true)
    (hj2 : (Region.ready .any ops lj == [i, k] && lj.setIfInBounds i true == lij && lj.setIfInBounds k true == ljk) = true)
    (hk2 : (Region.ready .any ops lk == [i, j] && lk.setIfInBounds i true == lik && lk.setIfInBounds j true == ljk) = true)
    (h1 : readyB .any ops lij m k = true) (h2 : readyB .any ops lik m j = true) (h4 : readyB .any ops ljk m i = true)
    (hS : ∀ W, S W → S (W.alloc c)) (hw : S w)
    (hc : ∀ p q r, p ≠ q → p ≠ r → q ≠ r → (p = w.heap.size ∨ p = w.heap.size + 1 ∨ p = w.heap.size + 2) → (q = w.heap.size ∨ q = w.heap.size + 1 ∨ q = w.heap.size + 2) → (r = w.heap.size ∨ r = w.heap.size + 1 ∨ r = w.heap.size + 2) →
      wpAnyLast P .any ops Q S ds n m (((a.put (some Ni) (ptr p)).put (some Nj) (ptr q)).put (some Nk) (ptr r)) (((w.alloc c).alloc c).alloc c)) :
    wpAnyLast P .any ops Q S ds (n + 3) l a w := by
  have wi : ∀ y, Region.wanted oi y = true := fun y => by simp [Region.wanted, gi]
  have wj : ∀ y, Region.wanted oj y = true := fun y => by simp [Region.wanted, gj]
  have wk : ∀ y, Region.wanted ok y = true := fun y => by simp [Region.wanted, gk]
  have s1 : (w.alloc c).heap.size = w.heap.size + 1 := by simp
  have s2 : ((w.alloc c).alloc c).heap.size = w.heap.size + 2 := by simp
  have hw1 := hS _ hw
  have hw2 := hS _ hw1
  have hw3 := hS _ hw2
  refine three_ li lj lk hi hj hk di dj dk h3 ni nj nk (fun K hK => ?_) (fun K hK => ?_) (fun K hK => ?_)
  · refine ev_ di (wi _) (ri _ _) (hK.out _ _ hw1 fun _ => ?_)
    refine two_ lij lik hj hk dj dk hi2 nj nk (fun K hK => ?_) (fun K hK => ?_)
    · refine ev_ dj (wj _) (rj _ _) (hK.out _ _ hw2 fun _ => ?_)
      refine one_ m hk dk h1 nk (fun K hK => ev_ dk (wk _) (rk _ _) (hK.out _ _ hw3 fun _ => ?_))
      rw [s1, s2]
      exact hc _ _ _ (by omega) (by omega) (by omega) (by omega) (by omega) (by omega)
    · refine ev_ dk (wk _) (rk _ _) (hK.out _ _ hw2 fun _ => ?_)
      refine one_ m hj dj h2 nj (fun K hK => ev_ dj (wj _) (rj _ _) (hK.out _ _ hw3 fun _ => ?_))
      rw [s1, s2, put_comm _ Nk Nj (Ne.symm hjk)]
      exact hc _ _ _ (by omega) (by omega) (by omega) (by omega) (by omega) (by omega)
  · refine ev_ dj (wj _) (rj _ _) (hK.out _ _ hw1 fun _ => ?_)
    refine two_ lij ljk hi hk di dk hj2 ni nk (fun K hK => ?_) (fun K hK => ?_)
    · refine ev_ di (wi _) (ri _ _) (hK.out _ _ hw2 fun _ => ?_)
      refine one_ m hk dk h1 nk (fun K hK => ev_ dk (wk _) (rk _ _) (hK.out _ _ hw3 fun _ => ?_))
      rw [s1, s2, put_comm _ Nj Ni (Ne.symm hij)]
      exact hc _ _ _ (by omega) (by omega) (by omega) (by omega) (by omega) (by omega)
    · refine ev_ dk (wk _) (rk _ _) (hK.out _ _ hw2 fun _ => ?_)
      refine one_ m hi di h4 ni (fun K hK => ev_ di (wi _) (ri _ _) (hK.out _ _ hw3 fun _ => ?_))
      rw [s1, s2, put_comm _ Nk Ni (Ne.symm hik), put_comm _ Nj Ni (Ne.symm hij)]
      exact hc _ _ _ (by omega) (by omega) (by omega) (by omega) (by omega) (by omega)
  · refine ev_ dk (wk _) (rk _ _) (hK.out _ _ hw1 fun _ => ?_)
    refine two_ lik ljk hi hj di dj hk2 ni nj (fun K hK => ?_) (fun K hK => ?_)
    · refine ev_ di (wi _) (ri _ _) (hK.out _ _ hw2 fun _ => ?_)
      refine one_ m hj dj h2 nj (fun K hK => ev_ dj (wj _) (rj _ _) (hK.out _ _ hw3 fun _ => ?_))
      rw [s1, s2, put_comm _ Nk Ni (Ne.symm hik), put_comm _ Nk Nj (Ne.symm hjk)]
      exact hc _ _ _ (by omega) (by omega) (by omega) (by omega) (by omega) (by omega)
    · refine ev_ dj (wj _) (rj _ _) (hK.out _ _ hw2 fun _ => ?_)
      refine one_ m hi di h4 ni (fun K hK => ev_ di (wi _) (ri _ _) (hK.out _ _ hw3 fun _ => ?_))
      rw [s1, s2, put_comm _ Nk Nj (Ne.symm hjk), put_comm _ Nk Ni (Ne.symm hik), put_comm _ Nj Ni (Ne.symm hij)]
      exact hc _ _ _ (by omega) (by omega) (by omega) (by omega) (by omega) (by omega)
theorem store25_ {o : Oper} {a : Act} {W : World} {K : Act → World → Prop} {p v : Operand} (ho : o.op = .store 25 p v) (hd : o.dst = none) (hg : o.guard = none) {g : Nat} {x y z : Int} {s : ByteArray} {m0 m1 m2 : Int} {m3 : ByteArray} (hp : a.eval p = .pointer (some ⟨g, 0, none⟩)) (hv : a.eval v = .agg #[.int .i64 m0, .int .i64 m1, .int .i64 m2, .string m3]) (hr : W.heap[g]? = some (.cells #[.int .i64 x, .int .i64 y, .int .i64 z, .string s] 25 (0, 0)))
    (h : ∀ W', W'.heap[g]? = some (.cells #[.int .i64 m0, .int .i64 m1, .int .i64 m2, .string m3] 25 (0, 0)) → (∀ h, h ≠ g → W'.heap[h]? = W.heap[h]?) → (∀ b w, b = w.heap.size → Below b w W → b ≤ g → Below b w W') → K a W') :
    if Region.wanted o (yielded ops a.tmps) = true then Oper.wp Tryd.prog o a W K Q else K (a.put none undef) W := by
  obtain ⟨W', e, h1, h2, h3⟩ := run_store25 a o p v ho W g x y z s m0 m1 m2 m3 hp hv hr
  exact skip_ (by simp [Region.wanted, hg]) hd e (h W' h1 h2 h3)
end
end Go.Proofs.YtkilaemngejplaaDoor
