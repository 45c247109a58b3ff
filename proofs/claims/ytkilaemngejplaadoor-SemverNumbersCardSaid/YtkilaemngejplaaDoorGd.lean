/- strings.SplitSeq at a separator that isn't empty: the pieces come one by one. -/
import Derived.Test.YtkilaemngejplaaDoorGa
import Derived.Test.YtkilaemngejplaaDoorRf
import Derived.Shelf.Abstract
import Derived.Shelf.RegionOpen
import Derived.WalkKit
import Derived.OwnWalkIn
import Derived.TacticsInMore
import Derived.LoopNIn
import Derived.LoopIn
import Derived.Lib.Hide
import Derived.Lib.CutLaws
import Derived.OneCell
set_option linter.unusedSimpArgs false
set_option linter.unusedVariables false
namespace Go.Proofs.YtkilaemngejplaaDoor
open Go.RowKit Go.Shelf Go.Proofs.Cuts Go.Proofs.YtkilaemngejplaaDoorW.PrintWords
attribute [local go_sem] Oper.semAt_some

/-- The pieces of a text. -/
def pieces (sep s : ByteArray) : List ByteArray := Lib.splitB sep 0 (Lib.countB s sep) s
theorem pieces_miss (sep s : ByteArray) (h : Lib.indexB s sep = -1) : pieces sep s = [s] := Lib.splitB_miss _ _ _ _ h
theorem pieces_hit (sep s : ByteArray) (h1 : 1 ≤ sep.size) (i : Nat) (h : Lib.indexB s sep = i) : pieces sep s = s.extract 0 i :: pieces sep (s.extract (i + sep.size) s.size) := by
  unfold pieces
  rw [Lib.countB_hit s sep i h1 h, Nat.add_comm 1, Lib.splitB_hit _ _ _ _ i h]
  rfl

def seqW (s sep : ByteArray) (w : World) : World := ((w.alloc (.cells #[.string s] 9)).alloc (.cells #[.string sep] 9)).alloc (.cells #[.int .i64 0] 3)
def seqV (B : Nat) : Value := .func (.func 78) #[] #[.pointer (some ⟨B + 1, 0, none⟩), .pointer (some ⟨B, 0, none⟩), .pointer (some ⟨B + 2, 0, none⟩)]

set_option maxRecDepth 100000 in
theorem splitSeq_any (s sep : ByteArray) (w : World) :
    Calls Tryd.prog 56 #[.string s, .string sep, .int .i64 0] w fun e w' => e = .returned (seqV w.heap.size) ∧ w' = seqW s sep w := by
  go_enter Tryd.func56, Tryd.ntmps56
  go_wp2_with fail
  go_ret
  exact ⟨rfl, rfl⟩
set_option maxRecDepth 100000 in
theorem SplitSeq_any (s sep : ByteArray) (w : World) :
    Calls Tryd.prog 41 #[.string s, .string sep] w fun e w' => e = .returned (seqV w.heap.size) ∧ w' = seqW s sep w := by
  go_enter Tryd.func41, Tryd.ntmps41
  go_wp2_with fail
  refine (splitSeq_any s sep w).mono ?_
  rintro e w' ⟨rfl, rfl⟩
  go_wp2_with fail
  go_ret
  exact ⟨rfl, rfl⟩

/-- What holds between two rounds: k pieces have come, the box holds the rest. -/
def IterRel (B : Nat) (s sep : ByteArray) (J : Nat → World → Prop) (m : Int) (wr : World) : Prop :=
  ∃ k r, wr.heap[B]? = some (.cells #[.string r] 9 (0, 0)) ∧ J k wr ∧ ((pieces sep s).map Value.string).drop k = (pieces sep r).map Value.string ∧ r.size ≤ s.size ∧
    wr.cell? ⟨B + 1, 0, none⟩ = some (.string sep) ∧ wr.cell? ⟨B + 2, 0, none⟩ = some (.int .i64 0) ∧ wr.cell? ⟨0, 0, none⟩ = some (.int .i64 m)
def left (B : Nat) (wr : World) : Nat := match wr.cell? ⟨B, 0, none⟩ with | some (.string r) => r.size | _ => 0
theorem left_eq {B : Nat} {wr : World} {r : ByteArray} (h : wr.heap[B]? = some (.cells #[.string r] 9 (0, 0))) : left B wr = r.size := by simp [left, World.cell?, h]

set_option maxHeartbeats 2000000 in
set_option maxRecDepth 100000 in
theorem split_iter (n : Nat) (hn : 1 ≤ n) (l B : Nat) (hLB : 4 ≤ B) (s sep : ByteArray) (hs : s.size < 4294967281) (h1 : 1 ≤ sep.size) (J Jx : Nat → World → Prop) (W : World)
    (hJ : HoldB B J) (hJx : HoldB B Jx)
    (hY : ∀ k W1 v, J k W1 → ((pieces sep s).map Value.string)[k]? = some v → YieldAt Fence.wide (n - 1) Tryd.prog l #[v] W1 fun e W' => (e = .returned (.bool true) ∧ J (k + 1) W' ∧ Keeps 4 B W1 W') ∨ (e = .returned (.bool false) ∧ Jx (k + 1) W'))
    (hb0 : W.heap[B]? = some (.cells #[.string s] 9 (0, 0))) (hb1 : W.heap[B + 1]? = some (.cells #[.string sep] 9 (0, 0))) (hb2 : W.heap[B + 2]? = some (.cells #[.int .i64 0] 3 (0, 0)))
    (m : Int) (hm : W.cell? ⟨0, 0, none⟩ = some (.int .i64 m)) (h0 : J 0 W) :
    CallsIn Fence.wide n Tryd.prog 78 (#[.func (.yield l) #[] #[]] ++ #[.pointer (some ⟨B + 1, 0, none⟩), .pointer (some ⟨B, 0, none⟩), .pointer (some ⟨B + 2, 0, none⟩)]) W fun e W' => (∃ v, e = .returned v) ∧
      (J ((pieces sep s).map Value.string).length W' ∨ ∃ k, Jx k W') := by
  refine callsIn_of_wp Tryd.func78 rfl trivial ?_ rfl
  simp only [Tryd.ntmps78, List.size_toArray, List.length_cons, List.length_nil, Nat.reduceAdd, Nat.reduceSub, Array.replicate_succ, Array.replicate_zero, List.push_toArray, List.append_toArray, List.nil_append, List.cons_append]
  have c1 : W.cell? ⟨B + 1, 0, none⟩ = some (.string sep) := by simp [World.cell?, hb1]
  have c1' : W.cell? ⟨B + 1, 0, none⟩ = some (.string sep) := c1
  have c2' : W.cell? ⟨B + 2, 0, none⟩ = some (.int .i64 0) := by simp [World.cell?, hb2]
  have hne : ((sep.size : Int) == 0) = false := beq_eq_false_iff_ne.2 (by omega)
  clear hb1
  gi_wp2_with fail
  gi_loopw [7] (fun _ wr => IterRel B s sep J m wr) (fun _ wr => left B wr)
  case atStart => exact ⟨0, s, hb0, h0, rfl, Nat.le_refl _, c1', c2', hm⟩
  case round =>
    obtain ⟨k, r, hr0, hJk, hd, hle, g1, g2, gm⟩ := hrel
    clear c1 c1' c2' hm hb0 hb2 h0
    have cr : wr.cell? ⟨B, 0, none⟩ = some (.string r) := by simp [World.cell?, hr0]
    have fr : wr.frozen? ⟨B, 0, none⟩ = false := by simp [World.frozen?, hr0]
    have HD := Lib.hid hd
    have HR0 := Lib.hid hr0
    have HL := Lib.hid (left_eq hr0)
    clear hd hr0
    by_cases hi : Lib.indexB r sep = -1
    · have hx : Lib.index r.data.toList sep.data.toList = -1 := hi
      have hcall := Lib.hid (Tryd.strings_Index r sep m wr (by omega) gm)
      have hp := pieces_miss sep r hi
      have HN : Hid (k + 1 = ((pieces sep s).map Value.string).length) := Lib.hid (by
        have := congrArg List.length HD.out
        rw [hp] at this; simp at this
        have hlt : k < ((pieces sep s).map Value.string).length := by rw [List.length_map]; omega
        rw [List.length_map]; omega)
      obtain ⟨fn, tmps, assign, body, hy, hR⟩ := hY k wr (.string r) hJk (by have := congrArg (fun l => l[0]?) HD.out; simpa [hp] using this)
      clear hi hp
      have HX := Lib.hid hx
      clear hx
      gi_wp2_with fail
      refine ⟨trivial, (callsIn_wide.2 hcall.out).mono ?_⟩
      rintro e w' ⟨rfl, rfl⟩
      rw [HX.out]
      gi_wp2_with fail
      refine hR.mono ?_
      rintro e W3 (⟨rfl, hJ3, hk3⟩ | ⟨rfl, hJx3⟩)
      · gi_wp2_with fail
        refine bodyPost_end (results_none rfl _ _ _) rfl ?_
        exact ⟨⟨_, rfl⟩, .inl (by rw [← HN.out]; exact hJ3)⟩
      · gi_wp2_with fail
        refine bodyPost_end (results_none rfl _ _ _) rfl ?_
        exact ⟨⟨_, rfl⟩, .inr ⟨_, hJx3⟩⟩
    · obtain ⟨i, hi', hib⟩ : ∃ i : Nat, Lib.indexB r sep = i ∧ i + sep.size ≤ r.size := (Lib.indexB_cases r sep).resolve_left hi
      have hx : Lib.index r.data.toList sep.data.toList = (i : Int) := hi'
      have hcall := Lib.hid (Tryd.strings_Index r sep m wr (by omega) gm)
      have hp := pieces_hit sep r h1 i hi'
      have HN : Hid (((pieces sep s).map Value.string).drop (k + 1) = (pieces sep (r.extract (i + sep.size) r.size)).map Value.string) := Lib.hid (by
        have := congrArg (fun l => l.drop 1) HD.out
        simp only [hp, List.map_cons, List.drop_succ_cons, List.drop_zero, List.drop_drop] at this
        rw [← this])
      have hY' := hY k wr (.string (r.extract 0 i)) hJk (by have := congrArg (fun l => l[0]?) HD.out; simpa [hp] using this)
      obtain ⟨fn, tmps, assign, body, hy, hR⟩ := hY'
      have HX := Lib.hid hx
      clear hi hi' hp hx
      gi_wp2_with fail
      refine ⟨trivial, (callsIn_wide.2 hcall.out).mono ?_⟩
      rintro e w' ⟨rfl, rfl⟩
      rw [HX.out]
      gi_wp2_with fail
      refine hR.mono ?_
      rintro e W3 (⟨rfl, hJ3, hk3⟩ | ⟨rfl, hJx3⟩)
      · have hr3 : W3.heap[B]? = some (.cells #[.string r] 9 (0, 0)) := (hk3.block B (.inr (Nat.le_refl _)) (by have := (Array.getElem?_eq_some_iff.1 HR0.out).1; exact this)).trans HR0.out
        have cr3 : W3.cell? ⟨B, 0, none⟩ = some (.string r) := by simp [World.cell?, hr3]
        have fr3 : W3.frozen? ⟨B, 0, none⟩ = false := by simp [World.frozen?, hr3]
        have g13 := hk3.cell (p := ⟨B + 1, 0, none⟩) (.inr (Nat.le_succ _)) g1
        have g23 := hk3.cell (p := ⟨B + 2, 0, none⟩) (.inr (by show B ≤ B + 2; omega)) g2
        have gm3 := hk3.cell (p := ⟨0, 0, none⟩) (.inl (by show 0 < 4; omega)) gm
        have HR3 := Lib.hid hr3
        clear hr3 hk3
        gi_wp2_with fail
        have hrel3 : IterRel B s sep J m (W3.setCell ⟨B, 0, none⟩ (.string (r.extract (i + sep.size) r.size))) :=
          ⟨k + 1, _, one_setCell HR3.out, hJ _ _ _ hJ3 (grownBy_setCell' _ _ _), HN.out, by rw [ByteArray.size_extract]; omega,
            (World.cell?_setCell_other _ _ _ _ (by simp)).trans g13, (World.cell?_setCell_other _ _ _ _ (by simp)).trans g23, (World.cell?_setCell_other _ _ _ _ (by intro e; cases e; omega)).trans gm3⟩
        have hme : left B (W3.setCell ⟨B, 0, none⟩ (.string (r.extract (i + sep.size) r.size))) < left B w' := by rw [left_eq (one_setCell HR3.out), HL.out, ByteArray.size_extract]; omega
        exact ⟨hrel3, hme⟩
      · gi_wp2_with fail
        refine bodyPost_ret (results_none rfl _ _ _) rfl ?_
        exact ⟨⟨_, rfl⟩, .inr ⟨_, hJx3⟩⟩

def seqB (B : Nat) : Array Value := #[.pointer (some ⟨B + 1, 0, none⟩), .pointer (some ⟨B, 0, none⟩), .pointer (some ⟨B + 2, 0, none⟩)]
theorem seqW_at (s sep : ByteArray) (w : World) : (seqW s sep w).heap[w.heap.size]? = some (.cells #[.string s] 9 (0, 0)) ∧
    (seqW s sep w).heap[w.heap.size + 1]? = some (.cells #[.string sep] 9 (0, 0)) ∧ (seqW s sep w).heap[w.heap.size + 2]? = some (.cells #[.int .i64 0] 3 (0, 0)) ∧ (seqW s sep w).heap.size = w.heap.size + 3 := by
  have e2 : ((w.alloc (.cells #[.string s] 9)).alloc (.cells #[.string sep] 9)).heap.size = w.heap.size + 2 := by simp
  have e1 : (w.alloc (.cells #[.string s] 9)).heap.size = w.heap.size + 1 := by simp
  unfold seqW
  refine ⟨?_, ?_, ?_, by simp⟩
  · rw [Below.heap_alloc _ _ _ (by omega), Below.heap_alloc _ _ _ (by omega)]; exact World.alloc_heap_new _ _
  · rw [Below.heap_alloc _ _ _ (by omega), ← e1]; exact World.alloc_heap_new _ _
  · rw [← e2]; exact World.alloc_heap_new _ _
theorem split_Iter (n : Nat) (hn : 1 ≤ n) (s sep : ByteArray) (hs : s.size < 4294967281) (h1 : 1 ≤ sep.size) (w : World) (hG : Gw w) :
    Iter Fence.wide n Tryd.prog 78 (seqB w.heap.size) 4 w.heap.size ((pieces sep s).map Value.string) (seqW s sep w) := by
  intro l J Jx W hk hJ hJx hY h0
  obtain ⟨a0, a1, a2, az⟩ := seqW_at s sep w
  obtain ⟨m, hm⟩ := hG.most
  have hb := hG.big
  have hm' : (seqW s sep w).cell? ⟨0, 0, none⟩ = some (.int .i64 m) := pw_cell_below ((((Below.refl _ w).alloc (Nat.le_refl _) _).alloc (by simp) _).alloc (by simp; omega) _) hm
  exact split_iter n hn l w.heap.size (by omega) s sep hs h1 J Jx W hJ hJx hY
    ((hk.block _ (.inr (Nat.le_refl _)) (by rw [az]; omega)).trans a0) ((hk.block _ (.inr (Nat.le_succ _)) (by rw [az]; omega)).trans a1) ((hk.block _ (.inr (by omega)) (by rw [az]; omega)).trans a2)
    m (hk.cell (.inl (by show 0 < 4; omega)) hm') h0
end Go.Proofs.YtkilaemngejplaaDoor
