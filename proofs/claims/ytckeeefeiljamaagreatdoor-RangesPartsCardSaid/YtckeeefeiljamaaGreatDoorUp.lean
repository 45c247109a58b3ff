/- The law RangesParts: walked by hand. -/
import Derived.Test.YtckeeefeiljamaaGreatDoorUf
import Derived.Test.YtckeeefeiljamaaGreatDoorPRanf9
import Derived.Lib.Hide
import Derived.LoopNIn
set_option linter.unusedSimpArgs false
set_option linter.unusedVariables false
namespace Go.Proofs.YtckeeefeiljamaaGreatDoor
open Go.RowKit Go.Lib Go.Proofs.YtckeeefeiljamaaGreatDoorW.PrintWords Go.Proofs.YtckeeefeiljamaaGreatDoorW.PrintLast PRan

theorem anchor_at (w : World) (hG : Gw w) : Calls Tryz.prog 11 #[] w fun e w' => e = .returned (.bool true) ∧ Below w.heap.size w w' := slipwaylaw02_anchor.calls true w hG anchor_some
theorem right_at (a b c : Int) (p : ByteArray) (h : tiny p) (q : Bool) (hq : rightB a b c p = q) (w : World) (hG : Gw w) : Calls Tryz.prog 18 #[.agg #[.int .i64 a, .int .i64 b, .int .i64 c, .string p]] w fun e w' => e = .returned (.bool q) ∧ Below w.heap.size w w' :=
  semver_Version_Right.calls a b c p q w hG (hq ▸ right_some a b c p h)
/-- What `of` gives: a range of one comparison, in cells of its own. -/
theorem of_at (o a b c : Int) (p : ByteArray) (w : World) : Calls Tryz.prog 19 #[.int .i64 o, .agg #[.int .i64 a, .int .i64 b, .int .i64 c, .string p]] w fun e w' => ∃ A n, e = .returned (.agg #[.slice A 1 n]) ∧ Hid (1 ≤ n ∧ Kd.C (Kd.slice 48 k48) w' A (ofR o a b c p).length (ofR o a b c p)) ∧ Below w.heap.size w w' := by
  refine (slipwaylaw02_of.calls o a b c p _ w (of_some o a b c p)).mono fun e w' ⟨v, he, h, hb⟩ => ?_
  obtain ⟨A, n, rfl⟩ := Kd.N_slice h
  obtain ⟨-, hn, hC⟩ := Kd.N_reads' h
  exact ⟨A, n, he, ⟨hn, hC⟩, hb⟩
theorem hasOf_at (A : Option Addr) (n : Nat) (o a b c : Int) (p : ByteArray) (x y z : Int) (q : ByteArray) (hp : tiny p) (hq : tiny q) (w : World) (hG : Gw w) (h : Hid (1 ≤ n ∧ Kd.C (Kd.slice 48 k48) w A (ofR o a b c p).length (ofR o a b c p))) (r : Bool) (hr : rangeH (ofR o a b c p) x y z q = r) :
    Calls Tryz.prog 16 #[.agg #[.slice A 1 n], .agg #[.int .i64 x, .int .i64 y, .int .i64 z, .string q]] w fun e w' => e = .returned (.bool r) ∧ Below w.heap.size w w' :=
  ranges_Range_Has.calls A n (ofR o a b c p) x y z q r w h.out.2 h.out.1 hG (hr ▸ hasR_some _ x y z q (ofR_tiny hp) hq)
structure Two (w W : World) (g h : Nat) (a b c : Int) (p : ByteArray) (x y z : Int) (q : ByteArray) : Prop where
  one : W.heap[g]? = some (.cells (vC a b c p) 38 (0, 0))
  two : W.heap[h]? = some (.cells (vC x y z q) 38 (0, 0))
  bel : Below w.heap.size w W
  gw : Gw W
theorem Two.step {w W W' : World} {g h : Nat} {a b c : Int} {p : ByteArray} {x y z : Int} {q : ByteArray} (k : Two w W g h a b c p x y z q) (hb : Below W.heap.size W W') : Two w W' g h a b c p x y z q :=
  ⟨blk_below k.one hb, blk_below k.two hb, below_step k.bel hb, k.gw.below hb⟩
theorem Two.drew {w W : World} {g h : Nat} {a b c : Int} {p : ByteArray} {x y z : Int} {q : ByteArray} (k : Two w W g h a b c p x y z q) : Two w W.drew g h a b c p x y z q := k.step (below_drew1 (Below.refl _ W))
theorem Two.cells {w W : World} {g h : Nat} {a b c : Int} {p : ByteArray} {x y z : Int} {q : ByteArray} (k : Two w W g h a b c p x y z q) :
    W.cell? ⟨g, 0, none⟩ = some (.int .i64 a) ∧ W.cell? ⟨g, 1, none⟩ = some (.int .i64 b) ∧ W.cell? ⟨g, 2, none⟩ = some (.int .i64 c) ∧ W.cell? ⟨g, 3, none⟩ = some (.string p) ∧
    W.cell? ⟨h, 0, none⟩ = some (.int .i64 x) ∧ W.cell? ⟨h, 1, none⟩ = some (.int .i64 y) ∧ W.cell? ⟨h, 2, none⟩ = some (.int .i64 z) ∧ W.cell? ⟨h, 3, none⟩ = some (.string q) :=
  ⟨blk_cell k.one 0, blk_cell k.one 1, blk_cell k.one 2, blk_cell k.one 3, blk_cell k.two 0, blk_cell k.two 1, blk_cell k.two 2, blk_cell k.two 3⟩
theorem nob_tiny : tiny nob := show nob.size ≤ 1000 by decide
set_option maxRecDepth 100000 in
set_option maxHeartbeats 4000000 in
theorem Parts_main (a b c : Int) (p : ByteArray) (x y z : Int) (q : ByteArray) (w : World) (hG : Gw w) (hp : p.size ≤ 100) (hq : q.size ≤ 100) (hv : rightB a b c p = true) (hw : rightB x y z q = true) (bl bs bm b3 b5 : Bool) (r2 : rangeH (ofR 2 x y z q) a b c p = bl) (r1 : rangeH (ofR 1 x y z q) a b c p = bs) (r4 : rangeH (ofR 4 x y z q) a b c p = bm) (r3 : rangeH (ofR 3 x y z q) a b c p = b3) (r5 : rangeH (ofR 5 x y z q) a b c p = b5) (r0 : rangeH (ofR 0 0 0 0 nob) a b c p = true) (hone : (bl = true ∧ bs = false ∧ bm = false ∧ b3 = true ∧ b5 = false) ∨ (bl = false ∧ bs = true ∧ bm = false ∧ b3 = true ∧ b5 = true) ∨ (bl = false ∧ bs = false ∧ bm = true ∧ b3 = false ∧ b5 = true)) (HQ : Hid ((a = x ∧ b = y ∧ c = z ∧ p.toList = q.toList) ↔ bs = true)) :
    Calls Tryz.prog 5 #[.agg (vC a b c p), .agg (vC x y z q)] w fun e w' => e = .returned (.bool true) ∧ Below w.heap.size w w' := by
  have p1 : decide ((p.size : Int) > 100) = false := decide_eq_false (by omega)
  have p2 : decide ((100 : Int) < (p.size : Int)) = false := decide_eq_false (by omega)
  have q1 : decide ((q.size : Int) > 100) = false := decide_eq_false (by omega)
  have q2 : decide ((100 : Int) < (q.size : Int)) = false := decide_eq_false (by omega)
  have tp : Hid (tiny p) := Lib.hid (show p.size ≤ 1000 by omega)
  have tq : Hid (tiny q) := Lib.hid (show q.size ≤ 1000 by omega)
  have hs : Two w ((w.alloc (.cells (vC a b c p) 38)).alloc (.cells (vC x y z q) 38)) w.heap.size (w.heap.size + 1) a b c p x y z q :=
    ⟨blk_alloc (World.alloc_heap_new _ _) _, by have := World.alloc_heap_new (w.alloc (.cells (vC a b c p) 38)) (.cells (vC x y z q) 38); simpa using this, below_alloc (below_alloc (Below.refl _ w) _) _, hG.below (below_alloc (below_alloc (Below.refl _ w) _) _)⟩
  clear hG
  go_enter Tryz.func5, Tryz.ntmps5
  go_wp2_with fail
  generalize hW : (w.alloc (.cells (vC a b c p) 38)).alloc (.cells (vC x y z q) 38) = W0 at *
  refine (anchor_at W0 hs.gw).mono ?_
  rintro e w1 ⟨rfl, hb1⟩
  have k1 := hs.step hb1
  clear hW hb1 hs
  have c0 := blk_cell k1.one 0
  have c1 := blk_cell k1.one 1
  have c2 := blk_cell k1.one 2
  have c3 := blk_cell k1.one 3
  have d3 := blk_cell k1.two 3
  go_wp2_with fail
  refine (right_at a b c p tp.out true hv w1 k1.gw).mono ?_
  rintro e w2 ⟨rfl, hb2⟩
  have k2 := k1.step hb2
  clear hb2 k1 c0 c1 c2 c3 d3
  have d0 := blk_cell k2.two 0
  have d1 := blk_cell k2.two 1
  have d2 := blk_cell k2.two 2
  have d3 := blk_cell k2.two 3
  go_wp2_with fail
  refine (right_at x y z q tq.out true hw w2 k2.gw).mono ?_
  rintro e w3 ⟨rfl, hb3⟩
  have k3 := k2.step hb3
  clear hb3 k2 d0 d1 d2 d3
  go_wp2_with fail
  have k4 := k3.drew
  go_region_held3 (fun W => W.cell? ⟨w.heap.size, 0, none⟩ = some (.int .i64 a) ∧ W.cell? ⟨w.heap.size, 1, none⟩ = some (.int .i64 b) ∧ W.cell? ⟨w.heap.size, 2, none⟩ = some (.int .i64 c) ∧ W.cell? ⟨w.heap.size, 3, none⟩ = some (.string p) ∧
    W.cell? ⟨w.heap.size + 1, 0, none⟩ = some (.int .i64 x) ∧ W.cell? ⟨w.heap.size + 1, 1, none⟩ = some (.int .i64 y) ∧ W.cell? ⟨w.heap.size + 1, 2, none⟩ = some (.int .i64 z) ∧ W.cell? ⟨w.heap.size + 1, 3, none⟩ = some (.string q))
    (exact k4.cells)
    (first
      | (go_at_call 19; refine (of_at _ x y z q _).mono ?_; rintro e w' ⟨A, n, rfl, hC, hb⟩; have k4 := k4.step hb; clear hb)
      | (go_at_call 16; refine (hasOf_at _ _ _ x y z q a b c p tq.out tp.out _ k4.gw hC _ (by assumption)).mono ?_; rintro e w' ⟨rfl, hb⟩; have k4 := k4.step hb; clear hb))
  clear k3
  go_wp2_with fail
  have kA := k4.step (below_alloc (Below.refl _ _) (.cells #[.bool bl, .bool bs, .bool bm] 4))
  have b0 := blk_cell (blk_new w' (.cells #[.bool bl, .bool bs, .bool bm] 4)) 0
  have b1 := blk_cell (blk_new w' (.cells #[.bool bl, .bool bs, .bool bm] 4)) 1
  have b2 := blk_cell (blk_new w' (.cells #[.bool bl, .bool bs, .bool bm] 4)) 2
  generalize hW : w'.alloc (.cells #[.bool bl, .bool bs, .bool bm] 4) = WA at *
  generalize w'.heap.size = g at *
  clear hW k4
  rcases hone with ⟨rfl, rfl, rfl, rfl, rfl⟩ | ⟨rfl, rfl, rfl, rfl, rfl⟩ | ⟨rfl, rfl, rfl, rfl, rfl⟩
  · go_loopg [8, 50] 3 (fun gg s8 s50 wr => ∃ i n : Int, (i = 0 ∧ n = 0 ∨ i = 1 ∧ n = 1 ∨ i = 2 ∧ n = 1 ∨ i = 3 ∧ n = 1) ∧ 3 - i ≤ gg ∧ s50 = .int .i64 i ∧ s8 = .int .i64 n ∧ wr = WA)
    case atStart => exact ⟨0, 0, .inl ⟨rfl, rfl⟩, by omega, rfl, rfl, rfl⟩
    case round =>
      obtain ⟨i, n, hi, hg, rfl, rfl, rfl⟩ := hrel
      rcases hi with ⟨rfl, rfl⟩ | ⟨rfl, rfl⟩ | ⟨rfl, rfl⟩ | ⟨rfl, rfl⟩
      · go_wp2_with fail
        go_roundg (gk - 1)
        case measure => omega
        case rel => exact ⟨1, 1, .inr (.inl ⟨rfl, rfl⟩), by omega, rfl, rfl, rfl⟩
      · go_wp2_with fail
        go_roundg (gk - 1)
        case measure => omega
        case rel => exact ⟨2, 1, .inr (.inr (.inl ⟨rfl, rfl⟩)), by omega, rfl, rfl, rfl⟩
      · go_wp2_with fail
        go_roundg (gk - 1)
        case measure => omega
        case rel => exact ⟨3, 1, .inr (.inr (.inr ⟨rfl, rfl⟩)), by omega, rfl, rfl, rfl⟩
      · go_wp2_with fail
        have k4 := kA.drew
        clear kA b0 b1 b2
        refine start_ (n := 38) (S := (fun W => Two w W w.heap.size (w.heap.size + 1) a b c p x y z q)) (ds := []) #[false, false, false, false, false, false, false, false, false, false, false, false, false, false, false, false, false, false, false, false, false, false, false, false, false, false, false, false, false, false, false, false, false, false, false, false, false, false] (by kernel_rfl) rfl rfl k4 (fun hS => ?_)
        generalize wr.drew = w20 at *
        refine take_ (i := 0) (N := some 58) (v := ?v100_0) (a' := ?a100_0) #[true, false, false, false, false, false, false, false, false, false, false, false, false, false, false, false, false, false, false, false, false, false, false, false, false, false, false, false, false, false, false, false, false, false, false, false, false, false] rfl rfl (by kernel_rfl) (fun _ _ _ h => h) (Or.inl ⟨by rfl, ?hy100_0⟩) hS ?ha100_0 ?rest100_0
        case hy100_0 =>
          intro W hW
          go_simp
          try with_reducible rfl
        case ha100_0 =>
          simp only [Act.put, List.setIfInBounds_toArray, List.set_cons_zero, List.set_cons_succ]
          rfl
        refine take_ (i := 1) (N := some 59) (v := ?v100_1) (a' := ?a100_1) #[true, true, false, false, false, false, false, false, false, false, false, false, false, false, false, false, false, false, false, false, false, false, false, false, false, false, false, false, false, false, false, false, false, false, false, false, false, false] rfl rfl (by kernel_rfl) (fun _ _ _ h => h) (Or.inl ⟨by rfl, ?hy100_1⟩) hS ?ha100_1 ?rest100_1
        case hy100_1 =>
          intro W hW
          go_simp
          try with_reducible rfl
        case ha100_1 =>
          simp only [Act.put, List.setIfInBounds_toArray, List.set_cons_zero, List.set_cons_succ]
          rfl
        refine take_ (i := 2) (N := some 60) (v := ?v100_2) (a' := ?a100_2) #[true, true, true, false, false, false, false, false, false, false, false, false, false, false, false, false, false, false, false, false, false, false, false, false, false, false, false, false, false, false, false, false, false, false, false, false, false, false] rfl rfl (by kernel_rfl) (fun _ _ _ h => h) (Or.inl ⟨by rfl, ?hy100_2⟩) hS ?ha100_2 ?rest100_2
        case hy100_2 =>
          intro W hW
          go_simp
          try with_reducible rfl
        case ha100_2 =>
          simp only [Act.put, List.setIfInBounds_toArray, List.set_cons_zero, List.set_cons_succ]
          rfl
        refine take_ (i := 3) (N := some 61) (v := ?v100_3) (a' := ?a100_3) #[true, true, true, true, false, false, false, false, false, false, false, false, false, false, false, false, false, false, false, false, false, false, false, false, false, false, false, false, false, false, false, false, false, false, false, false, false, false] rfl rfl (by kernel_rfl) (fun _ _ _ h => h) (Or.inl ⟨by rfl, ?hy100_3⟩) hS ?ha100_3 ?rest100_3
        case hy100_3 =>
          intro W hW
          obtain ⟨s0, s1, s2, s3, s4, s5, s6, s7⟩ := hW.cells
          go_simp
          try with_reducible rfl
        case ha100_3 =>
          simp only [Act.put, List.setIfInBounds_toArray, List.set_cons_zero, List.set_cons_succ]
          rfl
        refine take_ (i := 5) (N := some 63) (v := ?v100_5) (a' := ?a100_5) #[true, true, true, true, false, true, false, false, false, false, false, false, false, false, false, false, false, false, false, false, false, false, false, false, false, false, false, false, false, false, false, false, false, false, false, false, false, false] rfl rfl (by kernel_rfl) (fun _ _ _ h => h) (Or.inl ⟨by rfl, ?hy100_5⟩) hS ?ha100_5 ?rest100_5
        case hy100_5 =>
          intro W hW
          obtain ⟨s0, s1, s2, s3, s4, s5, s6, s7⟩ := hW.cells
          go_simp
          try with_reducible rfl
        case ha100_5 =>
          simp only [Act.put, List.setIfInBounds_toArray, List.set_cons_zero, List.set_cons_succ]
          rfl
        refine take_ (i := 7) (N := some 65) (v := ?v100_7) (a' := ?a100_7) #[true, true, true, true, false, true, false, true, false, false, false, false, false, false, false, false, false, false, false, false, false, false, false, false, false, false, false, false, false, false, false, false, false, false, false, false, false, false] rfl rfl (by kernel_rfl) (fun _ _ _ h => h) (Or.inl ⟨by rfl, ?hy100_7⟩) hS ?ha100_7 ?rest100_7
        case hy100_7 =>
          intro W hW
          go_simp
          try with_reducible rfl
        case ha100_7 =>
          simp only [Act.put, List.setIfInBounds_toArray, List.set_cons_zero, List.set_cons_succ]
          rfl
        refine one_ (i := 4) (N := some 62) #[true, true, true, true, true, true, false, true, false, false, false, false, false, false, false, false, false, false, false, false, false, false, false, false, false, false, false, false, false, false, false, false, false, false, false, false, false, false] rfl rfl (by kernel_rfl) (by decide) (fun K hK => ?_)
        go_simp
        refine (of_at 3 x y z q _).mono ?_
        rintro e w' ⟨A3, n3, rfl, hC3, hb⟩
        have k5 := hS.step hb
        refine hK.out _ _ k5 (fun hS5 => ?_)
        clear hb hK K k5 hS k4
        have hS := hS5
        have k4 := hS5
        clear hS5
        refine one_ (i := 6) (N := some 64) #[true, true, true, true, true, true, true, true, false, false, false, false, false, false, false, false, false, false, false, false, false, false, false, false, false, false, false, false, false, false, false, false, false, false, false, false, false, false] rfl rfl (by kernel_rfl) (by decide) (fun K hK => ?_)
        go_simp
        refine (hasOf_at A3 n3 3 x y z q a b c p tq.out tp.out _ hS.gw hC3 _ r3).mono ?_
        rintro e w' ⟨rfl, hb⟩
        have k5 := hS.step hb
        refine hK.out _ _ k5 (fun hS5 => ?_)
        clear hb hK K k5 hS k4 hC3
        have hS := hS5
        have k4 := hS5
        clear hS5
        refine take_ (i := 8) (N := some 66) (v := ?v100_8) (a' := ?a100_8) #[true, true, true, true, true, true, true, true, true, false, false, false, false, false, false, false, false, false, false, false, false, false, false, false, false, false, false, false, false, false, false, false, false, false, false, false, false, false] rfl rfl (by kernel_rfl) (fun _ _ _ h => h) (Or.inl ⟨by rfl, ?hy100_8⟩) hS ?ha100_8 ?rest100_8
        case hy100_8 =>
          intro W hW
          go_simp
          try with_reducible rfl
        case ha100_8 =>
          simp only [Act.put, List.setIfInBounds_toArray, List.set_cons_zero, List.set_cons_succ]
          rfl
        refine take_ (i := 9) (N := some 67) (v := undef) (a' := ?a100_9) #[true, true, true, true, true, true, true, true, true, true, false, false, false, false, false, false, false, false, false, false, false, false, false, false, false, false, false, false, false, false, false, false, false, false, false, false, false, false] rfl rfl (by kernel_rfl) (fun _ _ _ h => h) (Or.inr ⟨by rfl, rfl⟩) hS ?ha100_9 ?rest100_9
        case ha100_9 =>
          simp only [Act.put, List.setIfInBounds_toArray, List.set_cons_zero, List.set_cons_succ]
          rfl
        refine take_ (i := 10) (N := some 68) (v := ?v100_10) (a' := ?a100_10) #[true, true, true, true, true, true, true, true, true, true, true, false, false, false, false, false, false, false, false, false, false, false, false, false, false, false, false, false, false, false, false, false, false, false, false, false, false, false] rfl rfl (by kernel_rfl) (fun _ _ _ h => h) (Or.inl ⟨by rfl, ?hy100_10⟩) hS ?ha100_10 ?rest100_10
        case hy100_10 =>
          intro W hW
          go_simp
          try with_reducible rfl
        case ha100_10 =>
          simp only [Act.put, List.setIfInBounds_toArray, List.set_cons_zero, List.set_cons_succ]
          rfl
        refine take_ (i := 11) (N := some 69) (v := ?v100_11) (a' := ?a100_11) #[true, true, true, true, true, true, true, true, true, true, true, true, false, false, false, false, false, false, false, false, false, false, false, false, false, false, false, false, false, false, false, false, false, false, false, false, false, false] rfl rfl (by kernel_rfl) (fun _ _ _ h => h) (Or.inl ⟨by rfl, ?hy100_11⟩) hS ?ha100_11 ?rest100_11
        case hy100_11 =>
          intro W hW
          go_simp
          try with_reducible rfl
        case ha100_11 =>
          simp only [Act.put, List.setIfInBounds_toArray, List.set_cons_zero, List.set_cons_succ]
          rfl
        refine take_ (i := 12) (N := some 70) (v := ?v100_12) (a' := ?a100_12) #[true, true, true, true, true, true, true, true, true, true, true, true, true, false, false, false, false, false, false, false, false, false, false, false, false, false, false, false, false, false, false, false, false, false, false, false, false, false] rfl rfl (by kernel_rfl) (fun _ _ _ h => h) (Or.inl ⟨by rfl, ?hy100_12⟩) hS ?ha100_12 ?rest100_12
        case hy100_12 =>
          intro W hW
          go_simp
          try with_reducible rfl
        case ha100_12 =>
          simp only [Act.put, List.setIfInBounds_toArray, List.set_cons_zero, List.set_cons_succ]
          rfl
        refine take_ (i := 13) (N := some 71) (v := ?v100_13) (a' := ?a100_13) #[true, true, true, true, true, true, true, true, true, true, true, true, true, true, false, false, false, false, false, false, false, false, false, false, false, false, false, false, false, false, false, false, false, false, false, false, false, false] rfl rfl (by kernel_rfl) (fun _ _ _ h => h) (Or.inl ⟨by rfl, ?hy100_13⟩) hS ?ha100_13 ?rest100_13
        case hy100_13 =>
          intro W hW
          go_simp
          try with_reducible rfl
        case ha100_13 =>
          simp only [Act.put, List.setIfInBounds_toArray, List.set_cons_zero, List.set_cons_succ]
          rfl
        refine take_ (i := 14) (N := some 72) (v := ?v100_14) (a' := ?a100_14) #[true, true, true, true, true, true, true, true, true, true, true, true, true, true, true, false, false, false, false, false, false, false, false, false, false, false, false, false, false, false, false, false, false, false, false, false, false, false] rfl rfl (by kernel_rfl) (fun _ _ _ h => h) (Or.inl ⟨by rfl, ?hy100_14⟩) hS ?ha100_14 ?rest100_14
        case hy100_14 =>
          intro W hW
          obtain ⟨s0, s1, s2, s3, s4, s5, s6, s7⟩ := hW.cells
          go_simp
          try with_reducible rfl
        case ha100_14 =>
          simp only [Act.put, List.setIfInBounds_toArray, List.set_cons_zero, List.set_cons_succ]
          rfl
        refine take_ (i := 16) (N := some 74) (v := ?v100_16) (a' := ?a100_16) #[true, true, true, true, true, true, true, true, true, true, true, true, true, true, true, false, true, false, false, false, false, false, false, false, false, false, false, false, false, false, false, false, false, false, false, false, false, false] rfl rfl (by kernel_rfl) (fun _ _ _ h => h) (Or.inl ⟨by rfl, ?hy100_16⟩) hS ?ha100_16 ?rest100_16
        case hy100_16 =>
          intro W hW
          obtain ⟨s0, s1, s2, s3, s4, s5, s6, s7⟩ := hW.cells
          go_simp
          try with_reducible rfl
        case ha100_16 =>
          simp only [Act.put, List.setIfInBounds_toArray, List.set_cons_zero, List.set_cons_succ]
          rfl
        refine take_ (i := 18) (N := some 76) (v := ?v100_18) (a' := ?a100_18) #[true, true, true, true, true, true, true, true, true, true, true, true, true, true, true, false, true, false, true, false, false, false, false, false, false, false, false, false, false, false, false, false, false, false, false, false, false, false] rfl rfl (by kernel_rfl) (fun _ _ _ h => h) (Or.inl ⟨by rfl, ?hy100_18⟩) hS ?ha100_18 ?rest100_18
        case hy100_18 =>
          intro W hW
          go_simp
          try with_reducible rfl
        case ha100_18 =>
          simp only [Act.put, List.setIfInBounds_toArray, List.set_cons_zero, List.set_cons_succ]
          rfl
        refine one_ (i := 15) (N := some 73) #[true, true, true, true, true, true, true, true, true, true, true, true, true, true, true, true, true, false, true, false, false, false, false, false, false, false, false, false, false, false, false, false, false, false, false, false, false, false] rfl rfl (by kernel_rfl) (by decide) (fun K hK => ?_)
        go_simp
        refine (of_at 5 x y z q _).mono ?_
        rintro e w' ⟨A5, n5, rfl, hC5, hb⟩
        have k5 := hS.step hb
        refine hK.out _ _ k5 (fun hS5 => ?_)
        clear hb hK K k5 hS k4
        have hS := hS5
        have k4 := hS5
        clear hS5
        refine one_ (i := 17) (N := some 75) #[true, true, true, true, true, true, true, true, true, true, true, true, true, true, true, true, true, true, true, false, false, false, false, false, false, false, false, false, false, false, false, false, false, false, false, false, false, false] rfl rfl (by kernel_rfl) (by decide) (fun K hK => ?_)
        go_simp
        refine (hasOf_at A5 n5 5 x y z q a b c p tq.out tp.out _ hS.gw hC5 _ r5).mono ?_
        rintro e w' ⟨rfl, hb⟩
        have k5 := hS.step hb
        refine hK.out _ _ k5 (fun hS5 => ?_)
        clear hb hK K k5 hS k4 hC5
        have hS := hS5
        have k4 := hS5
        clear hS5
        refine take_ (i := 19) (N := some 77) (v := ?v100_19) (a' := ?a100_19) #[true, true, true, true, true, true, true, true, true, true, true, true, true, true, true, true, true, true, true, true, false, false, false, false, false, false, false, false, false, false, false, false, false, false, false, false, false, false] rfl rfl (by kernel_rfl) (fun _ _ _ h => h) (Or.inl ⟨by rfl, ?hy100_19⟩) hS ?ha100_19 ?rest100_19
        case hy100_19 =>
          intro W hW
          go_simp
          try with_reducible rfl
        case ha100_19 =>
          simp only [Act.put, List.setIfInBounds_toArray, List.set_cons_zero, List.set_cons_succ]
          rfl
        refine take_ (i := 20) (N := some 78) (v := ?v100_20) (a' := ?a100_20) #[true, true, true, true, true, true, true, true, true, true, true, true, true, true, true, true, true, true, true, true, true, false, false, false, false, false, false, false, false, false, false, false, false, false, false, false, false, false] rfl rfl (by kernel_rfl) (fun _ _ _ h => h) (Or.inl ⟨by rfl, ?hy100_20⟩) hS ?ha100_20 ?rest100_20
        case hy100_20 =>
          intro W hW
          go_simp
          try with_reducible rfl
        case ha100_20 =>
          simp only [Act.put, List.setIfInBounds_toArray, List.set_cons_zero, List.set_cons_succ]
          rfl
        refine take_ (i := 21) (N := some 79) (v := ?v100_21) (a' := ?a100_21) #[true, true, true, true, true, true, true, true, true, true, true, true, true, true, true, true, true, true, true, true, true, true, false, false, false, false, false, false, false, false, false, false, false, false, false, false, false, false] rfl rfl (by kernel_rfl) (fun _ _ _ h => h) (Or.inl ⟨by rfl, ?hy100_21⟩) hS ?ha100_21 ?rest100_21
        case hy100_21 =>
          intro W hW
          go_simp
          try with_reducible rfl
        case ha100_21 =>
          simp only [Act.put, List.setIfInBounds_toArray, List.set_cons_zero, List.set_cons_succ]
          rfl
        refine take_ (i := 22) (N := some 80) (v := ?v100_22) (a' := ?a100_22) #[true, true, true, true, true, true, true, true, true, true, true, true, true, true, true, true, true, true, true, true, true, true, true, false, false, false, false, false, false, false, false, false, false, false, false, false, false, false] rfl rfl (by kernel_rfl) (fun _ _ _ h => h) (Or.inl ⟨by rfl, ?hy100_22⟩) hS ?ha100_22 ?rest100_22
        case hy100_22 =>
          intro W hW
          go_simp
          try with_reducible rfl
        case ha100_22 =>
          simp only [Act.put, List.setIfInBounds_toArray, List.set_cons_zero, List.set_cons_succ]
          rfl
        refine take_ (i := 23) (N := some 81) (v := ?v100_23) (a' := ?a100_23) #[true, true, true, true, true, true, true, true, true, true, true, true, true, true, true, true, true, true, true, true, true, true, true, true, false, false, false, false, false, false, false, false, false, false, false, false, false, false] rfl rfl (by kernel_rfl) (fun _ _ _ h => h) (Or.inl ⟨by rfl, ?hy100_23⟩) hS ?ha100_23 ?rest100_23
        case hy100_23 =>
          intro W hW
          go_simp
          try with_reducible rfl
        case ha100_23 =>
          simp only [Act.put, List.setIfInBounds_toArray, List.set_cons_zero, List.set_cons_succ]
          rfl
        refine take_ (i := 24) (N := some 82) (v := ?v100_24) (a' := ?a100_24) #[true, true, true, true, true, true, true, true, true, true, true, true, true, true, true, true, true, true, true, true, true, true, true, true, true, false, false, false, false, false, false, false, false, false, false, false, false, false] rfl rfl (by kernel_rfl) (fun _ _ _ h => h) (Or.inl ⟨by rfl, ?hy100_24⟩) hS ?ha100_24 ?rest100_24
        case hy100_24 =>
          intro W hW
          go_simp
          try with_reducible rfl
        case ha100_24 =>
          simp only [Act.put, List.setIfInBounds_toArray, List.set_cons_zero, List.set_cons_succ]
          rfl
        refine take_ (i := 25) (N := some 83) (v := ?v100_25) (a' := ?a100_25) #[true, true, true, true, true, true, true, true, true, true, true, true, true, true, true, true, true, true, true, true, true, true, true, true, true, true, false, false, false, false, false, false, false, false, false, false, false, false] rfl rfl (by kernel_rfl) (fun _ _ _ h => h) (Or.inl ⟨by rfl, ?hy100_25⟩) hS ?ha100_25 ?rest100_25
        case hy100_25 =>
          intro W hW
          go_simp
          try with_reducible rfl
        case ha100_25 =>
          simp only [Act.put, List.setIfInBounds_toArray, List.set_cons_zero, List.set_cons_succ]
          rfl
        refine take_ (i := 27) (N := some 85) (v := ?v100_27) (a' := ?a100_27) #[true, true, true, true, true, true, true, true, true, true, true, true, true, true, true, true, true, true, true, true, true, true, true, true, true, true, false, true, false, false, false, false, false, false, false, false, false, false] rfl rfl (by kernel_rfl) (fun _ _ _ h => h) (Or.inl ⟨by rfl, ?hy100_27⟩) hS ?ha100_27 ?rest100_27
        case hy100_27 =>
          intro W hW
          obtain ⟨s0, s1, s2, s3, s4, s5, s6, s7⟩ := hW.cells
          go_simp
          try with_reducible rfl
        case ha100_27 =>
          simp only [Act.put, List.setIfInBounds_toArray, List.set_cons_zero, List.set_cons_succ]
          rfl
        refine one_ (i := 26) (N := some 84) #[true, true, true, true, true, true, true, true, true, true, true, true, true, true, true, true, true, true, true, true, true, true, true, true, true, true, true, true, false, false, false, false, false, false, false, false, false, false] rfl rfl (by kernel_rfl) (by decide) (fun K hK => ?_)
        go_simp
        refine (of_at 0 0 0 0 nob _).mono ?_
        rintro e w' ⟨A0, n0, rfl, hC0, hb⟩
        have k5 := hS.step hb
        refine hK.out _ _ k5 (fun hS5 => ?_)
        clear hb hK K k5 hS k4
        have hS := hS5
        have k4 := hS5
        clear hS5
        refine one_ (i := 28) (N := some 86) #[true, true, true, true, true, true, true, true, true, true, true, true, true, true, true, true, true, true, true, true, true, true, true, true, true, true, true, true, true, false, false, false, false, false, false, false, false, false] rfl rfl (by kernel_rfl) (by decide) (fun K hK => ?_)
        go_simp
        refine (hasOf_at A0 n0 0 0 0 0 nob a b c p nob_tiny tp.out _ hS.gw hC0 _ r0).mono ?_
        rintro e w' ⟨rfl, hb⟩
        have k5 := hS.step hb
        refine hK.out _ _ k5 (fun hS5 => ?_)
        clear hb hK K k5 hS k4 hC0
        have hS := hS5
        have k4 := hS5
        clear hS5
        refine take_ (i := 29) (N := some 87) (v := ?v100_29) (a' := ?a100_29) #[true, true, true, true, true, true, true, true, true, true, true, true, true, true, true, true, true, true, true, true, true, true, true, true, true, true, true, true, true, true, false, false, false, false, false, false, false, false] rfl rfl (by kernel_rfl) (fun _ _ _ h => h) (Or.inl ⟨by rfl, ?hy100_29⟩) hS ?ha100_29 ?rest100_29
        case hy100_29 =>
          intro W hW
          go_simp
          try with_reducible rfl
        case ha100_29 =>
          simp only [Act.put, List.setIfInBounds_toArray, List.set_cons_zero, List.set_cons_succ]
          rfl
        refine take_ (i := 30) (N := some 88) (v := ?v100_30) (a' := ?a100_30) #[true, true, true, true, true, true, true, true, true, true, true, true, true, true, true, true, true, true, true, true, true, true, true, true, true, true, true, true, true, true, true, false, false, false, false, false, false, false] rfl rfl (by kernel_rfl) (fun _ _ _ h => h) (Or.inl ⟨by rfl, ?hy100_30⟩) hS ?ha100_30 ?rest100_30
        case hy100_30 =>
          intro W hW
          go_simp
          try with_reducible rfl
        case ha100_30 =>
          simp only [Act.put, List.setIfInBounds_toArray, List.set_cons_zero, List.set_cons_succ]
          rfl
        refine take_ (i := 31) (N := some 89) (v := ?v100_31) (a' := ?a100_31) #[true, true, true, true, true, true, true, true, true, true, true, true, true, true, true, true, true, true, true, true, true, true, true, true, true, true, true, true, true, true, true, true, false, false, false, false, false, false] rfl rfl (by kernel_rfl) (fun _ _ _ h => h) (Or.inl ⟨by rfl, ?hy100_31⟩) hS ?ha100_31 ?rest100_31
        case hy100_31 =>
          intro W hW
          go_simp
          try with_reducible rfl
        case ha100_31 =>
          simp only [Act.put, List.setIfInBounds_toArray, List.set_cons_zero, List.set_cons_succ]
          rfl
        refine take_ (i := 32) (N := some 90) (v := ?v100_32) (a' := ?a100_32) #[true, true, true, true, true, true, true, true, true, true, true, true, true, true, true, true, true, true, true, true, true, true, true, true, true, true, true, true, true, true, true, true, true, false, false, false, false, false] rfl rfl (by kernel_rfl) (fun _ _ _ h => h) (Or.inl ⟨by rfl, ?hy100_32⟩) hS ?ha100_32 ?rest100_32
        case hy100_32 =>
          intro W hW
          obtain ⟨s0, s1, s2, s3, s4, s5, s6, s7⟩ := hW.cells
          go_simp
          try with_reducible rfl
        case ha100_32 =>
          simp only [Act.put, List.setIfInBounds_toArray, List.set_cons_zero, List.set_cons_succ]
          rfl
        refine take_ (i := 33) (N := some 91) (v := ?v100_33) (a' := ?a100_33) #[true, true, true, true, true, true, true, true, true, true, true, true, true, true, true, true, true, true, true, true, true, true, true, true, true, true, true, true, true, true, true, true, true, true, false, false, false, false] rfl rfl (by kernel_rfl) (fun _ _ _ h => h) (Or.inl ⟨by rfl, ?hy100_33⟩) hS ?ha100_33 ?rest100_33
        case hy100_33 =>
          intro W hW
          obtain ⟨s0, s1, s2, s3, s4, s5, s6, s7⟩ := hW.cells
          go_simp
          try with_reducible rfl
        case ha100_33 =>
          simp only [Act.put, List.setIfInBounds_toArray, List.set_cons_zero, List.set_cons_succ]
          rfl
        refine take_ (i := 34) (N := some 92) (v := .bool false) (a' := ?a100_34) #[true, true, true, true, true, true, true, true, true, true, true, true, true, true, true, true, true, true, true, true, true, true, true, true, true, true, true, true, true, true, true, true, true, true, true, false, false, false] rfl rfl (by kernel_rfl) (fun _ _ _ h => h) (Or.inl ⟨by rfl, ?hy100_34⟩) hS ?ha100_34 ?rest100_34
        case hy100_34 =>
          intro W hW
          go_simp
          exact fun e1 e2 e3 e4 => absurd (HQ.out.1 ⟨e1, e2, e3, e4⟩) (by decide)
        case ha100_34 =>
          simp only [Act.put, List.setIfInBounds_toArray, List.set_cons_zero, List.set_cons_succ]
          rfl
        refine take_ (i := 35) (N := some 93) (v := ?v100_35) (a' := ?a100_35) #[true, true, true, true, true, true, true, true, true, true, true, true, true, true, true, true, true, true, true, true, true, true, true, true, true, true, true, true, true, true, true, true, true, true, true, true, false, false] rfl rfl (by kernel_rfl) (fun _ _ _ h => h) (Or.inl ⟨by rfl, ?hy100_35⟩) hS ?ha100_35 ?rest100_35
        case hy100_35 =>
          intro W hW
          go_simp
          try with_reducible rfl
        case ha100_35 =>
          simp only [Act.put, List.setIfInBounds_toArray, List.set_cons_zero, List.set_cons_succ]
          rfl
        refine take_ (i := 36) (N := some 94) (v := ?v100_36) (a' := ?a100_36) #[true, true, true, true, true, true, true, true, true, true, true, true, true, true, true, true, true, true, true, true, true, true, true, true, true, true, true, true, true, true, true, true, true, true, true, true, true, false] rfl rfl (by kernel_rfl) (fun _ _ _ h => h) (Or.inl ⟨by rfl, ?hy100_36⟩) hS ?ha100_36 ?rest100_36
        case hy100_36 =>
          intro W hW
          go_simp
          try with_reducible rfl
        case ha100_36 =>
          simp only [Act.put, List.setIfInBounds_toArray, List.set_cons_zero, List.set_cons_succ]
          rfl
        refine take_ (i := 37) (N := some 4) (v := ?v100_37) (a' := ?a100_37) #[true, true, true, true, true, true, true, true, true, true, true, true, true, true, true, true, true, true, true, true, true, true, true, true, true, true, true, true, true, true, true, true, true, true, true, true, true, true] rfl rfl (by kernel_rfl) (fun _ _ _ h => h) (Or.inl ⟨by rfl, ?hy100_37⟩) hS ?ha100_37 ?rest100_37
        case hy100_37 =>
          intro W hW
          go_simp
          try with_reducible rfl
        case ha100_37 =>
          simp only [Act.put, List.setIfInBounds_toArray, List.set_cons_zero, List.set_cons_succ]
          rfl
        refine done_ (by kernel_rfl) ?_
        go_wp2_with fail
        go_ret
        exact ⟨rfl, hS.bel⟩
  · go_loopg [8, 50] 3 (fun gg s8 s50 wr => ∃ i n : Int, (i = 0 ∧ n = 0 ∨ i = 1 ∧ n = 0 ∨ i = 2 ∧ n = 1 ∨ i = 3 ∧ n = 1) ∧ 3 - i ≤ gg ∧ s50 = .int .i64 i ∧ s8 = .int .i64 n ∧ wr = WA)
    case atStart => exact ⟨0, 0, .inl ⟨rfl, rfl⟩, by omega, rfl, rfl, rfl⟩
    case round =>
      obtain ⟨i, n, hi, hg, rfl, rfl, rfl⟩ := hrel
      rcases hi with ⟨rfl, rfl⟩ | ⟨rfl, rfl⟩ | ⟨rfl, rfl⟩ | ⟨rfl, rfl⟩
      · go_wp2_with fail
        go_roundg (gk - 1)
        case measure => omega
        case rel => exact ⟨1, 0, .inr (.inl ⟨rfl, rfl⟩), by omega, rfl, rfl, rfl⟩
      · go_wp2_with fail
        go_roundg (gk - 1)
        case measure => omega
        case rel => exact ⟨2, 1, .inr (.inr (.inl ⟨rfl, rfl⟩)), by omega, rfl, rfl, rfl⟩
      · go_wp2_with fail
        go_roundg (gk - 1)
        case measure => omega
        case rel => exact ⟨3, 1, .inr (.inr (.inr ⟨rfl, rfl⟩)), by omega, rfl, rfl, rfl⟩
      · go_wp2_with fail
        have k4 := kA.drew
        clear kA b0 b1 b2
        refine start_ (n := 38) (S := (fun W => Two w W w.heap.size (w.heap.size + 1) a b c p x y z q)) (ds := []) #[false, false, false, false, false, false, false, false, false, false, false, false, false, false, false, false, false, false, false, false, false, false, false, false, false, false, false, false, false, false, false, false, false, false, false, false, false, false] (by kernel_rfl) rfl rfl k4 (fun hS => ?_)
        generalize wr.drew = w20 at *
        refine take_ (i := 0) (N := some 58) (v := ?v010_0) (a' := ?a010_0) #[true, false, false, false, false, false, false, false, false, false, false, false, false, false, false, false, false, false, false, false, false, false, false, false, false, false, false, false, false, false, false, false, false, false, false, false, false, false] rfl rfl (by kernel_rfl) (fun _ _ _ h => h) (Or.inl ⟨by rfl, ?hy010_0⟩) hS ?ha010_0 ?rest010_0
        case hy010_0 =>
          intro W hW
          go_simp
          try with_reducible rfl
        case ha010_0 =>
          simp only [Act.put, List.setIfInBounds_toArray, List.set_cons_zero, List.set_cons_succ]
          rfl
        refine take_ (i := 1) (N := some 59) (v := ?v010_1) (a' := ?a010_1) #[true, true, false, false, false, false, false, false, false, false, false, false, false, false, false, false, false, false, false, false, false, false, false, false, false, false, false, false, false, false, false, false, false, false, false, false, false, false] rfl rfl (by kernel_rfl) (fun _ _ _ h => h) (Or.inl ⟨by rfl, ?hy010_1⟩) hS ?ha010_1 ?rest010_1
        case hy010_1 =>
          intro W hW
          go_simp
          try with_reducible rfl
        case ha010_1 =>
          simp only [Act.put, List.setIfInBounds_toArray, List.set_cons_zero, List.set_cons_succ]
          rfl
        refine take_ (i := 2) (N := some 60) (v := ?v010_2) (a' := ?a010_2) #[true, true, true, false, false, false, false, false, false, false, false, false, false, false, false, false, false, false, false, false, false, false, false, false, false, false, false, false, false, false, false, false, false, false, false, false, false, false] rfl rfl (by kernel_rfl) (fun _ _ _ h => h) (Or.inl ⟨by rfl, ?hy010_2⟩) hS ?ha010_2 ?rest010_2
        case hy010_2 =>
          intro W hW
          go_simp
          try with_reducible rfl
        case ha010_2 =>
          simp only [Act.put, List.setIfInBounds_toArray, List.set_cons_zero, List.set_cons_succ]
          rfl
        refine take_ (i := 3) (N := some 61) (v := ?v010_3) (a' := ?a010_3) #[true, true, true, true, false, false, false, false, false, false, false, false, false, false, false, false, false, false, false, false, false, false, false, false, false, false, false, false, false, false, false, false, false, false, false, false, false, false] rfl rfl (by kernel_rfl) (fun _ _ _ h => h) (Or.inl ⟨by rfl, ?hy010_3⟩) hS ?ha010_3 ?rest010_3
        case hy010_3 =>
          intro W hW
          obtain ⟨s0, s1, s2, s3, s4, s5, s6, s7⟩ := hW.cells
          go_simp
          try with_reducible rfl
        case ha010_3 =>
          simp only [Act.put, List.setIfInBounds_toArray, List.set_cons_zero, List.set_cons_succ]
          rfl
        refine take_ (i := 5) (N := some 63) (v := ?v010_5) (a' := ?a010_5) #[true, true, true, true, false, true, false, false, false, false, false, false, false, false, false, false, false, false, false, false, false, false, false, false, false, false, false, false, false, false, false, false, false, false, false, false, false, false] rfl rfl (by kernel_rfl) (fun _ _ _ h => h) (Or.inl ⟨by rfl, ?hy010_5⟩) hS ?ha010_5 ?rest010_5
        case hy010_5 =>
          intro W hW
          obtain ⟨s0, s1, s2, s3, s4, s5, s6, s7⟩ := hW.cells
          go_simp
          try with_reducible rfl
        case ha010_5 =>
          simp only [Act.put, List.setIfInBounds_toArray, List.set_cons_zero, List.set_cons_succ]
          rfl
        refine take_ (i := 7) (N := some 65) (v := ?v010_7) (a' := ?a010_7) #[true, true, true, true, false, true, false, true, false, false, false, false, false, false, false, false, false, false, false, false, false, false, false, false, false, false, false, false, false, false, false, false, false, false, false, false, false, false] rfl rfl (by kernel_rfl) (fun _ _ _ h => h) (Or.inl ⟨by rfl, ?hy010_7⟩) hS ?ha010_7 ?rest010_7
        case hy010_7 =>
          intro W hW
          go_simp
          try with_reducible rfl
        case ha010_7 =>
          simp only [Act.put, List.setIfInBounds_toArray, List.set_cons_zero, List.set_cons_succ]
          rfl
        refine one_ (i := 4) (N := some 62) #[true, true, true, true, true, true, false, true, false, false, false, false, false, false, false, false, false, false, false, false, false, false, false, false, false, false, false, false, false, false, false, false, false, false, false, false, false, false] rfl rfl (by kernel_rfl) (by decide) (fun K hK => ?_)
        go_simp
        refine (of_at 3 x y z q _).mono ?_
        rintro e w' ⟨A3, n3, rfl, hC3, hb⟩
        have k5 := hS.step hb
        refine hK.out _ _ k5 (fun hS5 => ?_)
        clear hb hK K k5 hS k4
        have hS := hS5
        have k4 := hS5
        clear hS5
        refine one_ (i := 6) (N := some 64) #[true, true, true, true, true, true, true, true, false, false, false, false, false, false, false, false, false, false, false, false, false, false, false, false, false, false, false, false, false, false, false, false, false, false, false, false, false, false] rfl rfl (by kernel_rfl) (by decide) (fun K hK => ?_)
        go_simp
        refine (hasOf_at A3 n3 3 x y z q a b c p tq.out tp.out _ hS.gw hC3 _ r3).mono ?_
        rintro e w' ⟨rfl, hb⟩
        have k5 := hS.step hb
        refine hK.out _ _ k5 (fun hS5 => ?_)
        clear hb hK K k5 hS k4 hC3
        have hS := hS5
        have k4 := hS5
        clear hS5
        refine take_ (i := 8) (N := some 66) (v := ?v010_8) (a' := ?a010_8) #[true, true, true, true, true, true, true, true, true, false, false, false, false, false, false, false, false, false, false, false, false, false, false, false, false, false, false, false, false, false, false, false, false, false, false, false, false, false] rfl rfl (by kernel_rfl) (fun _ _ _ h => h) (Or.inl ⟨by rfl, ?hy010_8⟩) hS ?ha010_8 ?rest010_8
        case hy010_8 =>
          intro W hW
          go_simp
          try with_reducible rfl
        case ha010_8 =>
          simp only [Act.put, List.setIfInBounds_toArray, List.set_cons_zero, List.set_cons_succ]
          rfl
        refine take_ (i := 9) (N := some 67) (v := ?v010_9) (a' := ?a010_9) #[true, true, true, true, true, true, true, true, true, true, false, false, false, false, false, false, false, false, false, false, false, false, false, false, false, false, false, false, false, false, false, false, false, false, false, false, false, false] rfl rfl (by kernel_rfl) (fun _ _ _ h => h) (Or.inl ⟨by rfl, ?hy010_9⟩) hS ?ha010_9 ?rest010_9
        case hy010_9 =>
          intro W hW
          go_simp
          try with_reducible rfl
        case ha010_9 =>
          simp only [Act.put, List.setIfInBounds_toArray, List.set_cons_zero, List.set_cons_succ]
          rfl
        refine take_ (i := 10) (N := some 68) (v := ?v010_10) (a' := ?a010_10) #[true, true, true, true, true, true, true, true, true, true, true, false, false, false, false, false, false, false, false, false, false, false, false, false, false, false, false, false, false, false, false, false, false, false, false, false, false, false] rfl rfl (by kernel_rfl) (fun _ _ _ h => h) (Or.inl ⟨by rfl, ?hy010_10⟩) hS ?ha010_10 ?rest010_10
        case hy010_10 =>
          intro W hW
          go_simp
          try with_reducible rfl
        case ha010_10 =>
          simp only [Act.put, List.setIfInBounds_toArray, List.set_cons_zero, List.set_cons_succ]
          rfl
        refine take_ (i := 11) (N := some 69) (v := ?v010_11) (a' := ?a010_11) #[true, true, true, true, true, true, true, true, true, true, true, true, false, false, false, false, false, false, false, false, false, false, false, false, false, false, false, false, false, false, false, false, false, false, false, false, false, false] rfl rfl (by kernel_rfl) (fun _ _ _ h => h) (Or.inl ⟨by rfl, ?hy010_11⟩) hS ?ha010_11 ?rest010_11
        case hy010_11 =>
          intro W hW
          go_simp
          try with_reducible rfl
        case ha010_11 =>
          simp only [Act.put, List.setIfInBounds_toArray, List.set_cons_zero, List.set_cons_succ]
          rfl
        refine take_ (i := 12) (N := some 70) (v := ?v010_12) (a' := ?a010_12) #[true, true, true, true, true, true, true, true, true, true, true, true, true, false, false, false, false, false, false, false, false, false, false, false, false, false, false, false, false, false, false, false, false, false, false, false, false, false] rfl rfl (by kernel_rfl) (fun _ _ _ h => h) (Or.inl ⟨by rfl, ?hy010_12⟩) hS ?ha010_12 ?rest010_12
        case hy010_12 =>
          intro W hW
          go_simp
          try with_reducible rfl
        case ha010_12 =>
          simp only [Act.put, List.setIfInBounds_toArray, List.set_cons_zero, List.set_cons_succ]
          rfl
        refine take_ (i := 13) (N := some 71) (v := ?v010_13) (a' := ?a010_13) #[true, true, true, true, true, true, true, true, true, true, true, true, true, true, false, false, false, false, false, false, false, false, false, false, false, false, false, false, false, false, false, false, false, false, false, false, false, false] rfl rfl (by kernel_rfl) (fun _ _ _ h => h) (Or.inl ⟨by rfl, ?hy010_13⟩) hS ?ha010_13 ?rest010_13
        case hy010_13 =>
          intro W hW
          go_simp
          try with_reducible rfl
        case ha010_13 =>
          simp only [Act.put, List.setIfInBounds_toArray, List.set_cons_zero, List.set_cons_succ]
          rfl
        refine take_ (i := 14) (N := some 72) (v := ?v010_14) (a' := ?a010_14) #[true, true, true, true, true, true, true, true, true, true, true, true, true, true, true, false, false, false, false, false, false, false, false, false, false, false, false, false, false, false, false, false, false, false, false, false, false, false] rfl rfl (by kernel_rfl) (fun _ _ _ h => h) (Or.inl ⟨by rfl, ?hy010_14⟩) hS ?ha010_14 ?rest010_14
        case hy010_14 =>
          intro W hW
          obtain ⟨s0, s1, s2, s3, s4, s5, s6, s7⟩ := hW.cells
          go_simp
          try with_reducible rfl
        case ha010_14 =>
          simp only [Act.put, List.setIfInBounds_toArray, List.set_cons_zero, List.set_cons_succ]
          rfl
        refine take_ (i := 16) (N := some 74) (v := ?v010_16) (a' := ?a010_16) #[true, true, true, true, true, true, true, true, true, true, true, true, true, true, true, false, true, false, false, false, false, false, false, false, false, false, false, false, false, false, false, false, false, false, false, false, false, false] rfl rfl (by kernel_rfl) (fun _ _ _ h => h) (Or.inl ⟨by rfl, ?hy010_16⟩) hS ?ha010_16 ?rest010_16
        case hy010_16 =>
          intro W hW
          obtain ⟨s0, s1, s2, s3, s4, s5, s6, s7⟩ := hW.cells
          go_simp
          try with_reducible rfl
        case ha010_16 =>
          simp only [Act.put, List.setIfInBounds_toArray, List.set_cons_zero, List.set_cons_succ]
          rfl
        refine take_ (i := 18) (N := some 76) (v := ?v010_18) (a' := ?a010_18) #[true, true, true, true, true, true, true, true, true, true, true, true, true, true, true, false, true, false, true, false, false, false, false, false, false, false, false, false, false, false, false, false, false, false, false, false, false, false] rfl rfl (by kernel_rfl) (fun _ _ _ h => h) (Or.inl ⟨by rfl, ?hy010_18⟩) hS ?ha010_18 ?rest010_18
        case hy010_18 =>
          intro W hW
          go_simp
          try with_reducible rfl
        case ha010_18 =>
          simp only [Act.put, List.setIfInBounds_toArray, List.set_cons_zero, List.set_cons_succ]
          rfl
        refine one_ (i := 15) (N := some 73) #[true, true, true, true, true, true, true, true, true, true, true, true, true, true, true, true, true, false, true, false, false, false, false, false, false, false, false, false, false, false, false, false, false, false, false, false, false, false] rfl rfl (by kernel_rfl) (by decide) (fun K hK => ?_)
        go_simp
        refine (of_at 5 x y z q _).mono ?_
        rintro e w' ⟨A5, n5, rfl, hC5, hb⟩
        have k5 := hS.step hb
        refine hK.out _ _ k5 (fun hS5 => ?_)
        clear hb hK K k5 hS k4
        have hS := hS5
        have k4 := hS5
        clear hS5
        refine one_ (i := 17) (N := some 75) #[true, true, true, true, true, true, true, true, true, true, true, true, true, true, true, true, true, true, true, false, false, false, false, false, false, false, false, false, false, false, false, false, false, false, false, false, false, false] rfl rfl (by kernel_rfl) (by decide) (fun K hK => ?_)
        go_simp
        refine (hasOf_at A5 n5 5 x y z q a b c p tq.out tp.out _ hS.gw hC5 _ r5).mono ?_
        rintro e w' ⟨rfl, hb⟩
        have k5 := hS.step hb
        refine hK.out _ _ k5 (fun hS5 => ?_)
        clear hb hK K k5 hS k4 hC5
        have hS := hS5
        have k4 := hS5
        clear hS5
        refine take_ (i := 19) (N := some 77) (v := ?v010_19) (a' := ?a010_19) #[true, true, true, true, true, true, true, true, true, true, true, true, true, true, true, true, true, true, true, true, false, false, false, false, false, false, false, false, false, false, false, false, false, false, false, false, false, false] rfl rfl (by kernel_rfl) (fun _ _ _ h => h) (Or.inl ⟨by rfl, ?hy010_19⟩) hS ?ha010_19 ?rest010_19
        case hy010_19 =>
          intro W hW
          go_simp
          try with_reducible rfl
        case ha010_19 =>
          simp only [Act.put, List.setIfInBounds_toArray, List.set_cons_zero, List.set_cons_succ]
          rfl
        refine take_ (i := 20) (N := some 78) (v := ?v010_20) (a' := ?a010_20) #[true, true, true, true, true, true, true, true, true, true, true, true, true, true, true, true, true, true, true, true, true, false, false, false, false, false, false, false, false, false, false, false, false, false, false, false, false, false] rfl rfl (by kernel_rfl) (fun _ _ _ h => h) (Or.inl ⟨by rfl, ?hy010_20⟩) hS ?ha010_20 ?rest010_20
        case hy010_20 =>
          intro W hW
          go_simp
          try with_reducible rfl
        case ha010_20 =>
          simp only [Act.put, List.setIfInBounds_toArray, List.set_cons_zero, List.set_cons_succ]
          rfl
        refine take_ (i := 21) (N := some 79) (v := ?v010_21) (a' := ?a010_21) #[true, true, true, true, true, true, true, true, true, true, true, true, true, true, true, true, true, true, true, true, true, true, false, false, false, false, false, false, false, false, false, false, false, false, false, false, false, false] rfl rfl (by kernel_rfl) (fun _ _ _ h => h) (Or.inl ⟨by rfl, ?hy010_21⟩) hS ?ha010_21 ?rest010_21
        case hy010_21 =>
          intro W hW
          go_simp
          try with_reducible rfl
        case ha010_21 =>
          simp only [Act.put, List.setIfInBounds_toArray, List.set_cons_zero, List.set_cons_succ]
          rfl
        refine take_ (i := 22) (N := some 80) (v := ?v010_22) (a' := ?a010_22) #[true, true, true, true, true, true, true, true, true, true, true, true, true, true, true, true, true, true, true, true, true, true, true, false, false, false, false, false, false, false, false, false, false, false, false, false, false, false] rfl rfl (by kernel_rfl) (fun _ _ _ h => h) (Or.inl ⟨by rfl, ?hy010_22⟩) hS ?ha010_22 ?rest010_22
        case hy010_22 =>
          intro W hW
          go_simp
          try with_reducible rfl
        case ha010_22 =>
          simp only [Act.put, List.setIfInBounds_toArray, List.set_cons_zero, List.set_cons_succ]
          rfl
        refine take_ (i := 23) (N := some 81) (v := ?v010_23) (a' := ?a010_23) #[true, true, true, true, true, true, true, true, true, true, true, true, true, true, true, true, true, true, true, true, true, true, true, true, false, false, false, false, false, false, false, false, false, false, false, false, false, false] rfl rfl (by kernel_rfl) (fun _ _ _ h => h) (Or.inl ⟨by rfl, ?hy010_23⟩) hS ?ha010_23 ?rest010_23
        case hy010_23 =>
          intro W hW
          go_simp
          try with_reducible rfl
        case ha010_23 =>
          simp only [Act.put, List.setIfInBounds_toArray, List.set_cons_zero, List.set_cons_succ]
          rfl
        refine take_ (i := 24) (N := some 82) (v := ?v010_24) (a' := ?a010_24) #[true, true, true, true, true, true, true, true, true, true, true, true, true, true, true, true, true, true, true, true, true, true, true, true, true, false, false, false, false, false, false, false, false, false, false, false, false, false] rfl rfl (by kernel_rfl) (fun _ _ _ h => h) (Or.inl ⟨by rfl, ?hy010_24⟩) hS ?ha010_24 ?rest010_24
        case hy010_24 =>
          intro W hW
          go_simp
          try with_reducible rfl
        case ha010_24 =>
          simp only [Act.put, List.setIfInBounds_toArray, List.set_cons_zero, List.set_cons_succ]
          rfl
        refine take_ (i := 25) (N := some 83) (v := ?v010_25) (a' := ?a010_25) #[true, true, true, true, true, true, true, true, true, true, true, true, true, true, true, true, true, true, true, true, true, true, true, true, true, true, false, false, false, false, false, false, false, false, false, false, false, false] rfl rfl (by kernel_rfl) (fun _ _ _ h => h) (Or.inl ⟨by rfl, ?hy010_25⟩) hS ?ha010_25 ?rest010_25
        case hy010_25 =>
          intro W hW
          go_simp
          try with_reducible rfl
        case ha010_25 =>
          simp only [Act.put, List.setIfInBounds_toArray, List.set_cons_zero, List.set_cons_succ]
          rfl
        refine take_ (i := 27) (N := some 85) (v := ?v010_27) (a' := ?a010_27) #[true, true, true, true, true, true, true, true, true, true, true, true, true, true, true, true, true, true, true, true, true, true, true, true, true, true, false, true, false, false, false, false, false, false, false, false, false, false] rfl rfl (by kernel_rfl) (fun _ _ _ h => h) (Or.inl ⟨by rfl, ?hy010_27⟩) hS ?ha010_27 ?rest010_27
        case hy010_27 =>
          intro W hW
          obtain ⟨s0, s1, s2, s3, s4, s5, s6, s7⟩ := hW.cells
          go_simp
          try with_reducible rfl
        case ha010_27 =>
          simp only [Act.put, List.setIfInBounds_toArray, List.set_cons_zero, List.set_cons_succ]
          rfl
        refine one_ (i := 26) (N := some 84) #[true, true, true, true, true, true, true, true, true, true, true, true, true, true, true, true, true, true, true, true, true, true, true, true, true, true, true, true, false, false, false, false, false, false, false, false, false, false] rfl rfl (by kernel_rfl) (by decide) (fun K hK => ?_)
        go_simp
        refine (of_at 0 0 0 0 nob _).mono ?_
        rintro e w' ⟨A0, n0, rfl, hC0, hb⟩
        have k5 := hS.step hb
        refine hK.out _ _ k5 (fun hS5 => ?_)
        clear hb hK K k5 hS k4
        have hS := hS5
        have k4 := hS5
        clear hS5
        refine one_ (i := 28) (N := some 86) #[true, true, true, true, true, true, true, true, true, true, true, true, true, true, true, true, true, true, true, true, true, true, true, true, true, true, true, true, true, false, false, false, false, false, false, false, false, false] rfl rfl (by kernel_rfl) (by decide) (fun K hK => ?_)
        go_simp
        refine (hasOf_at A0 n0 0 0 0 0 nob a b c p nob_tiny tp.out _ hS.gw hC0 _ r0).mono ?_
        rintro e w' ⟨rfl, hb⟩
        have k5 := hS.step hb
        refine hK.out _ _ k5 (fun hS5 => ?_)
        clear hb hK K k5 hS k4 hC0
        have hS := hS5
        have k4 := hS5
        clear hS5
        refine take_ (i := 29) (N := some 87) (v := ?v010_29) (a' := ?a010_29) #[true, true, true, true, true, true, true, true, true, true, true, true, true, true, true, true, true, true, true, true, true, true, true, true, true, true, true, true, true, true, false, false, false, false, false, false, false, false] rfl rfl (by kernel_rfl) (fun _ _ _ h => h) (Or.inl ⟨by rfl, ?hy010_29⟩) hS ?ha010_29 ?rest010_29
        case hy010_29 =>
          intro W hW
          go_simp
          try with_reducible rfl
        case ha010_29 =>
          simp only [Act.put, List.setIfInBounds_toArray, List.set_cons_zero, List.set_cons_succ]
          rfl
        refine take_ (i := 30) (N := some 88) (v := ?v010_30) (a' := ?a010_30) #[true, true, true, true, true, true, true, true, true, true, true, true, true, true, true, true, true, true, true, true, true, true, true, true, true, true, true, true, true, true, true, false, false, false, false, false, false, false] rfl rfl (by kernel_rfl) (fun _ _ _ h => h) (Or.inl ⟨by rfl, ?hy010_30⟩) hS ?ha010_30 ?rest010_30
        case hy010_30 =>
          intro W hW
          go_simp
          try with_reducible rfl
        case ha010_30 =>
          simp only [Act.put, List.setIfInBounds_toArray, List.set_cons_zero, List.set_cons_succ]
          rfl
        refine take_ (i := 31) (N := some 89) (v := ?v010_31) (a' := ?a010_31) #[true, true, true, true, true, true, true, true, true, true, true, true, true, true, true, true, true, true, true, true, true, true, true, true, true, true, true, true, true, true, true, true, false, false, false, false, false, false] rfl rfl (by kernel_rfl) (fun _ _ _ h => h) (Or.inl ⟨by rfl, ?hy010_31⟩) hS ?ha010_31 ?rest010_31
        case hy010_31 =>
          intro W hW
          go_simp
          try with_reducible rfl
        case ha010_31 =>
          simp only [Act.put, List.setIfInBounds_toArray, List.set_cons_zero, List.set_cons_succ]
          rfl
        refine take_ (i := 32) (N := some 90) (v := ?v010_32) (a' := ?a010_32) #[true, true, true, true, true, true, true, true, true, true, true, true, true, true, true, true, true, true, true, true, true, true, true, true, true, true, true, true, true, true, true, true, true, false, false, false, false, false] rfl rfl (by kernel_rfl) (fun _ _ _ h => h) (Or.inl ⟨by rfl, ?hy010_32⟩) hS ?ha010_32 ?rest010_32
        case hy010_32 =>
          intro W hW
          obtain ⟨s0, s1, s2, s3, s4, s5, s6, s7⟩ := hW.cells
          go_simp
          try with_reducible rfl
        case ha010_32 =>
          simp only [Act.put, List.setIfInBounds_toArray, List.set_cons_zero, List.set_cons_succ]
          rfl
        refine take_ (i := 33) (N := some 91) (v := ?v010_33) (a' := ?a010_33) #[true, true, true, true, true, true, true, true, true, true, true, true, true, true, true, true, true, true, true, true, true, true, true, true, true, true, true, true, true, true, true, true, true, true, false, false, false, false] rfl rfl (by kernel_rfl) (fun _ _ _ h => h) (Or.inl ⟨by rfl, ?hy010_33⟩) hS ?ha010_33 ?rest010_33
        case hy010_33 =>
          intro W hW
          obtain ⟨s0, s1, s2, s3, s4, s5, s6, s7⟩ := hW.cells
          go_simp
          try with_reducible rfl
        case ha010_33 =>
          simp only [Act.put, List.setIfInBounds_toArray, List.set_cons_zero, List.set_cons_succ]
          rfl
        refine take_ (i := 34) (N := some 92) (v := .bool true) (a' := ?a010_34) #[true, true, true, true, true, true, true, true, true, true, true, true, true, true, true, true, true, true, true, true, true, true, true, true, true, true, true, true, true, true, true, true, true, true, true, false, false, false] rfl rfl (by kernel_rfl) (fun _ _ _ h => h) (Or.inl ⟨by rfl, ?hy010_34⟩) hS ?ha010_34 ?rest010_34
        case hy010_34 =>
          intro W hW
          go_simp
          obtain ⟨e1, e2, e3, e4⟩ := HQ.out.2 (by trivial)
          rw [if_pos e1, if_pos e2, if_pos e3, if_pos e4]
        case ha010_34 =>
          simp only [Act.put, List.setIfInBounds_toArray, List.set_cons_zero, List.set_cons_succ]
          rfl
        refine take_ (i := 35) (N := some 93) (v := ?v010_35) (a' := ?a010_35) #[true, true, true, true, true, true, true, true, true, true, true, true, true, true, true, true, true, true, true, true, true, true, true, true, true, true, true, true, true, true, true, true, true, true, true, true, false, false] rfl rfl (by kernel_rfl) (fun _ _ _ h => h) (Or.inl ⟨by rfl, ?hy010_35⟩) hS ?ha010_35 ?rest010_35
        case hy010_35 =>
          intro W hW
          go_simp
          try with_reducible rfl
        case ha010_35 =>
          simp only [Act.put, List.setIfInBounds_toArray, List.set_cons_zero, List.set_cons_succ]
          rfl
        refine take_ (i := 36) (N := some 94) (v := ?v010_36) (a' := ?a010_36) #[true, true, true, true, true, true, true, true, true, true, true, true, true, true, true, true, true, true, true, true, true, true, true, true, true, true, true, true, true, true, true, true, true, true, true, true, true, false] rfl rfl (by kernel_rfl) (fun _ _ _ h => h) (Or.inl ⟨by rfl, ?hy010_36⟩) hS ?ha010_36 ?rest010_36
        case hy010_36 =>
          intro W hW
          go_simp
          try with_reducible rfl
        case ha010_36 =>
          simp only [Act.put, List.setIfInBounds_toArray, List.set_cons_zero, List.set_cons_succ]
          rfl
        refine take_ (i := 37) (N := some 4) (v := ?v010_37) (a' := ?a010_37) #[true, true, true, true, true, true, true, true, true, true, true, true, true, true, true, true, true, true, true, true, true, true, true, true, true, true, true, true, true, true, true, true, true, true, true, true, true, true] rfl rfl (by kernel_rfl) (fun _ _ _ h => h) (Or.inl ⟨by rfl, ?hy010_37⟩) hS ?ha010_37 ?rest010_37
        case hy010_37 =>
          intro W hW
          go_simp
          try with_reducible rfl
        case ha010_37 =>
          simp only [Act.put, List.setIfInBounds_toArray, List.set_cons_zero, List.set_cons_succ]
          rfl
        refine done_ (by kernel_rfl) ?_
        go_wp2_with fail
        go_ret
        exact ⟨rfl, hS.bel⟩
  · go_loopg [8, 50] 3 (fun gg s8 s50 wr => ∃ i n : Int, (i = 0 ∧ n = 0 ∨ i = 1 ∧ n = 0 ∨ i = 2 ∧ n = 0 ∨ i = 3 ∧ n = 1) ∧ 3 - i ≤ gg ∧ s50 = .int .i64 i ∧ s8 = .int .i64 n ∧ wr = WA)
    case atStart => exact ⟨0, 0, .inl ⟨rfl, rfl⟩, by omega, rfl, rfl, rfl⟩
    case round =>
      obtain ⟨i, n, hi, hg, rfl, rfl, rfl⟩ := hrel
      rcases hi with ⟨rfl, rfl⟩ | ⟨rfl, rfl⟩ | ⟨rfl, rfl⟩ | ⟨rfl, rfl⟩
      · go_wp2_with fail
        go_roundg (gk - 1)
        case measure => omega
        case rel => exact ⟨1, 0, .inr (.inl ⟨rfl, rfl⟩), by omega, rfl, rfl, rfl⟩
      · go_wp2_with fail
        go_roundg (gk - 1)
        case measure => omega
        case rel => exact ⟨2, 0, .inr (.inr (.inl ⟨rfl, rfl⟩)), by omega, rfl, rfl, rfl⟩
      · go_wp2_with fail
        go_roundg (gk - 1)
        case measure => omega
        case rel => exact ⟨3, 1, .inr (.inr (.inr ⟨rfl, rfl⟩)), by omega, rfl, rfl, rfl⟩
      · go_wp2_with fail
        have k4 := kA.drew
        clear kA b0 b1 b2
        refine start_ (n := 38) (S := (fun W => Two w W w.heap.size (w.heap.size + 1) a b c p x y z q)) (ds := []) #[false, false, false, false, false, false, false, false, false, false, false, false, false, false, false, false, false, false, false, false, false, false, false, false, false, false, false, false, false, false, false, false, false, false, false, false, false, false] (by kernel_rfl) rfl rfl k4 (fun hS => ?_)
        generalize wr.drew = w20 at *
        refine take_ (i := 0) (N := some 58) (v := ?v001_0) (a' := ?a001_0) #[true, false, false, false, false, false, false, false, false, false, false, false, false, false, false, false, false, false, false, false, false, false, false, false, false, false, false, false, false, false, false, false, false, false, false, false, false, false] rfl rfl (by kernel_rfl) (fun _ _ _ h => h) (Or.inl ⟨by rfl, ?hy001_0⟩) hS ?ha001_0 ?rest001_0
        case hy001_0 =>
          intro W hW
          go_simp
          try with_reducible rfl
        case ha001_0 =>
          simp only [Act.put, List.setIfInBounds_toArray, List.set_cons_zero, List.set_cons_succ]
          rfl
        refine take_ (i := 1) (N := some 59) (v := ?v001_1) (a' := ?a001_1) #[true, true, false, false, false, false, false, false, false, false, false, false, false, false, false, false, false, false, false, false, false, false, false, false, false, false, false, false, false, false, false, false, false, false, false, false, false, false] rfl rfl (by kernel_rfl) (fun _ _ _ h => h) (Or.inl ⟨by rfl, ?hy001_1⟩) hS ?ha001_1 ?rest001_1
        case hy001_1 =>
          intro W hW
          go_simp
          try with_reducible rfl
        case ha001_1 =>
          simp only [Act.put, List.setIfInBounds_toArray, List.set_cons_zero, List.set_cons_succ]
          rfl
        refine take_ (i := 2) (N := some 60) (v := ?v001_2) (a' := ?a001_2) #[true, true, true, false, false, false, false, false, false, false, false, false, false, false, false, false, false, false, false, false, false, false, false, false, false, false, false, false, false, false, false, false, false, false, false, false, false, false] rfl rfl (by kernel_rfl) (fun _ _ _ h => h) (Or.inl ⟨by rfl, ?hy001_2⟩) hS ?ha001_2 ?rest001_2
        case hy001_2 =>
          intro W hW
          go_simp
          try with_reducible rfl
        case ha001_2 =>
          simp only [Act.put, List.setIfInBounds_toArray, List.set_cons_zero, List.set_cons_succ]
          rfl
        refine take_ (i := 3) (N := some 61) (v := ?v001_3) (a' := ?a001_3) #[true, true, true, true, false, false, false, false, false, false, false, false, false, false, false, false, false, false, false, false, false, false, false, false, false, false, false, false, false, false, false, false, false, false, false, false, false, false] rfl rfl (by kernel_rfl) (fun _ _ _ h => h) (Or.inl ⟨by rfl, ?hy001_3⟩) hS ?ha001_3 ?rest001_3
        case hy001_3 =>
          intro W hW
          obtain ⟨s0, s1, s2, s3, s4, s5, s6, s7⟩ := hW.cells
          go_simp
          try with_reducible rfl
        case ha001_3 =>
          simp only [Act.put, List.setIfInBounds_toArray, List.set_cons_zero, List.set_cons_succ]
          rfl
        refine take_ (i := 5) (N := some 63) (v := ?v001_5) (a' := ?a001_5) #[true, true, true, true, false, true, false, false, false, false, false, false, false, false, false, false, false, false, false, false, false, false, false, false, false, false, false, false, false, false, false, false, false, false, false, false, false, false] rfl rfl (by kernel_rfl) (fun _ _ _ h => h) (Or.inl ⟨by rfl, ?hy001_5⟩) hS ?ha001_5 ?rest001_5
        case hy001_5 =>
          intro W hW
          obtain ⟨s0, s1, s2, s3, s4, s5, s6, s7⟩ := hW.cells
          go_simp
          try with_reducible rfl
        case ha001_5 =>
          simp only [Act.put, List.setIfInBounds_toArray, List.set_cons_zero, List.set_cons_succ]
          rfl
        refine take_ (i := 7) (N := some 65) (v := ?v001_7) (a' := ?a001_7) #[true, true, true, true, false, true, false, true, false, false, false, false, false, false, false, false, false, false, false, false, false, false, false, false, false, false, false, false, false, false, false, false, false, false, false, false, false, false] rfl rfl (by kernel_rfl) (fun _ _ _ h => h) (Or.inl ⟨by rfl, ?hy001_7⟩) hS ?ha001_7 ?rest001_7
        case hy001_7 =>
          intro W hW
          go_simp
          try with_reducible rfl
        case ha001_7 =>
          simp only [Act.put, List.setIfInBounds_toArray, List.set_cons_zero, List.set_cons_succ]
          rfl
        refine one_ (i := 4) (N := some 62) #[true, true, true, true, true, true, false, true, false, false, false, false, false, false, false, false, false, false, false, false, false, false, false, false, false, false, false, false, false, false, false, false, false, false, false, false, false, false] rfl rfl (by kernel_rfl) (by decide) (fun K hK => ?_)
        go_simp
        refine (of_at 3 x y z q _).mono ?_
        rintro e w' ⟨A3, n3, rfl, hC3, hb⟩
        have k5 := hS.step hb
        refine hK.out _ _ k5 (fun hS5 => ?_)
        clear hb hK K k5 hS k4
        have hS := hS5
        have k4 := hS5
        clear hS5
        refine one_ (i := 6) (N := some 64) #[true, true, true, true, true, true, true, true, false, false, false, false, false, false, false, false, false, false, false, false, false, false, false, false, false, false, false, false, false, false, false, false, false, false, false, false, false, false] rfl rfl (by kernel_rfl) (by decide) (fun K hK => ?_)
        go_simp
        refine (hasOf_at A3 n3 3 x y z q a b c p tq.out tp.out _ hS.gw hC3 _ r3).mono ?_
        rintro e w' ⟨rfl, hb⟩
        have k5 := hS.step hb
        refine hK.out _ _ k5 (fun hS5 => ?_)
        clear hb hK K k5 hS k4 hC3
        have hS := hS5
        have k4 := hS5
        clear hS5
        refine take_ (i := 8) (N := some 66) (v := ?v001_8) (a' := ?a001_8) #[true, true, true, true, true, true, true, true, true, false, false, false, false, false, false, false, false, false, false, false, false, false, false, false, false, false, false, false, false, false, false, false, false, false, false, false, false, false] rfl rfl (by kernel_rfl) (fun _ _ _ h => h) (Or.inl ⟨by rfl, ?hy001_8⟩) hS ?ha001_8 ?rest001_8
        case hy001_8 =>
          intro W hW
          go_simp
          try with_reducible rfl
        case ha001_8 =>
          simp only [Act.put, List.setIfInBounds_toArray, List.set_cons_zero, List.set_cons_succ]
          rfl
        refine take_ (i := 9) (N := some 67) (v := ?v001_9) (a' := ?a001_9) #[true, true, true, true, true, true, true, true, true, true, false, false, false, false, false, false, false, false, false, false, false, false, false, false, false, false, false, false, false, false, false, false, false, false, false, false, false, false] rfl rfl (by kernel_rfl) (fun _ _ _ h => h) (Or.inl ⟨by rfl, ?hy001_9⟩) hS ?ha001_9 ?rest001_9
        case hy001_9 =>
          intro W hW
          go_simp
          try with_reducible rfl
        case ha001_9 =>
          simp only [Act.put, List.setIfInBounds_toArray, List.set_cons_zero, List.set_cons_succ]
          rfl
        refine take_ (i := 10) (N := some 68) (v := ?v001_10) (a' := ?a001_10) #[true, true, true, true, true, true, true, true, true, true, true, false, false, false, false, false, false, false, false, false, false, false, false, false, false, false, false, false, false, false, false, false, false, false, false, false, false, false] rfl rfl (by kernel_rfl) (fun _ _ _ h => h) (Or.inl ⟨by rfl, ?hy001_10⟩) hS ?ha001_10 ?rest001_10
        case hy001_10 =>
          intro W hW
          go_simp
          try with_reducible rfl
        case ha001_10 =>
          simp only [Act.put, List.setIfInBounds_toArray, List.set_cons_zero, List.set_cons_succ]
          rfl
        refine take_ (i := 11) (N := some 69) (v := ?v001_11) (a' := ?a001_11) #[true, true, true, true, true, true, true, true, true, true, true, true, false, false, false, false, false, false, false, false, false, false, false, false, false, false, false, false, false, false, false, false, false, false, false, false, false, false] rfl rfl (by kernel_rfl) (fun _ _ _ h => h) (Or.inl ⟨by rfl, ?hy001_11⟩) hS ?ha001_11 ?rest001_11
        case hy001_11 =>
          intro W hW
          go_simp
          try with_reducible rfl
        case ha001_11 =>
          simp only [Act.put, List.setIfInBounds_toArray, List.set_cons_zero, List.set_cons_succ]
          rfl
        refine take_ (i := 12) (N := some 70) (v := ?v001_12) (a' := ?a001_12) #[true, true, true, true, true, true, true, true, true, true, true, true, true, false, false, false, false, false, false, false, false, false, false, false, false, false, false, false, false, false, false, false, false, false, false, false, false, false] rfl rfl (by kernel_rfl) (fun _ _ _ h => h) (Or.inl ⟨by rfl, ?hy001_12⟩) hS ?ha001_12 ?rest001_12
        case hy001_12 =>
          intro W hW
          go_simp
          try with_reducible rfl
        case ha001_12 =>
          simp only [Act.put, List.setIfInBounds_toArray, List.set_cons_zero, List.set_cons_succ]
          rfl
        refine take_ (i := 13) (N := some 71) (v := ?v001_13) (a' := ?a001_13) #[true, true, true, true, true, true, true, true, true, true, true, true, true, true, false, false, false, false, false, false, false, false, false, false, false, false, false, false, false, false, false, false, false, false, false, false, false, false] rfl rfl (by kernel_rfl) (fun _ _ _ h => h) (Or.inl ⟨by rfl, ?hy001_13⟩) hS ?ha001_13 ?rest001_13
        case hy001_13 =>
          intro W hW
          go_simp
          try with_reducible rfl
        case ha001_13 =>
          simp only [Act.put, List.setIfInBounds_toArray, List.set_cons_zero, List.set_cons_succ]
          rfl
        refine take_ (i := 14) (N := some 72) (v := ?v001_14) (a' := ?a001_14) #[true, true, true, true, true, true, true, true, true, true, true, true, true, true, true, false, false, false, false, false, false, false, false, false, false, false, false, false, false, false, false, false, false, false, false, false, false, false] rfl rfl (by kernel_rfl) (fun _ _ _ h => h) (Or.inl ⟨by rfl, ?hy001_14⟩) hS ?ha001_14 ?rest001_14
        case hy001_14 =>
          intro W hW
          obtain ⟨s0, s1, s2, s3, s4, s5, s6, s7⟩ := hW.cells
          go_simp
          try with_reducible rfl
        case ha001_14 =>
          simp only [Act.put, List.setIfInBounds_toArray, List.set_cons_zero, List.set_cons_succ]
          rfl
        refine take_ (i := 16) (N := some 74) (v := ?v001_16) (a' := ?a001_16) #[true, true, true, true, true, true, true, true, true, true, true, true, true, true, true, false, true, false, false, false, false, false, false, false, false, false, false, false, false, false, false, false, false, false, false, false, false, false] rfl rfl (by kernel_rfl) (fun _ _ _ h => h) (Or.inl ⟨by rfl, ?hy001_16⟩) hS ?ha001_16 ?rest001_16
        case hy001_16 =>
          intro W hW
          obtain ⟨s0, s1, s2, s3, s4, s5, s6, s7⟩ := hW.cells
          go_simp
          try with_reducible rfl
        case ha001_16 =>
          simp only [Act.put, List.setIfInBounds_toArray, List.set_cons_zero, List.set_cons_succ]
          rfl
        refine take_ (i := 18) (N := some 76) (v := ?v001_18) (a' := ?a001_18) #[true, true, true, true, true, true, true, true, true, true, true, true, true, true, true, false, true, false, true, false, false, false, false, false, false, false, false, false, false, false, false, false, false, false, false, false, false, false] rfl rfl (by kernel_rfl) (fun _ _ _ h => h) (Or.inl ⟨by rfl, ?hy001_18⟩) hS ?ha001_18 ?rest001_18
        case hy001_18 =>
          intro W hW
          go_simp
          try with_reducible rfl
        case ha001_18 =>
          simp only [Act.put, List.setIfInBounds_toArray, List.set_cons_zero, List.set_cons_succ]
          rfl
        refine one_ (i := 15) (N := some 73) #[true, true, true, true, true, true, true, true, true, true, true, true, true, true, true, true, true, false, true, false, false, false, false, false, false, false, false, false, false, false, false, false, false, false, false, false, false, false] rfl rfl (by kernel_rfl) (by decide) (fun K hK => ?_)
        go_simp
        refine (of_at 5 x y z q _).mono ?_
        rintro e w' ⟨A5, n5, rfl, hC5, hb⟩
        have k5 := hS.step hb
        refine hK.out _ _ k5 (fun hS5 => ?_)
        clear hb hK K k5 hS k4
        have hS := hS5
        have k4 := hS5
        clear hS5
        refine one_ (i := 17) (N := some 75) #[true, true, true, true, true, true, true, true, true, true, true, true, true, true, true, true, true, true, true, false, false, false, false, false, false, false, false, false, false, false, false, false, false, false, false, false, false, false] rfl rfl (by kernel_rfl) (by decide) (fun K hK => ?_)
        go_simp
        refine (hasOf_at A5 n5 5 x y z q a b c p tq.out tp.out _ hS.gw hC5 _ r5).mono ?_
        rintro e w' ⟨rfl, hb⟩
        have k5 := hS.step hb
        refine hK.out _ _ k5 (fun hS5 => ?_)
        clear hb hK K k5 hS k4 hC5
        have hS := hS5
        have k4 := hS5
        clear hS5
        refine take_ (i := 19) (N := some 77) (v := ?v001_19) (a' := ?a001_19) #[true, true, true, true, true, true, true, true, true, true, true, true, true, true, true, true, true, true, true, true, false, false, false, false, false, false, false, false, false, false, false, false, false, false, false, false, false, false] rfl rfl (by kernel_rfl) (fun _ _ _ h => h) (Or.inl ⟨by rfl, ?hy001_19⟩) hS ?ha001_19 ?rest001_19
        case hy001_19 =>
          intro W hW
          go_simp
          try with_reducible rfl
        case ha001_19 =>
          simp only [Act.put, List.setIfInBounds_toArray, List.set_cons_zero, List.set_cons_succ]
          rfl
        refine take_ (i := 20) (N := some 78) (v := undef) (a' := ?a001_20) #[true, true, true, true, true, true, true, true, true, true, true, true, true, true, true, true, true, true, true, true, true, false, false, false, false, false, false, false, false, false, false, false, false, false, false, false, false, false] rfl rfl (by kernel_rfl) (fun _ _ _ h => h) (Or.inr ⟨by rfl, rfl⟩) hS ?ha001_20 ?rest001_20
        case ha001_20 =>
          simp only [Act.put, List.setIfInBounds_toArray, List.set_cons_zero, List.set_cons_succ]
          rfl
        refine take_ (i := 21) (N := some 79) (v := ?v001_21) (a' := ?a001_21) #[true, true, true, true, true, true, true, true, true, true, true, true, true, true, true, true, true, true, true, true, true, true, false, false, false, false, false, false, false, false, false, false, false, false, false, false, false, false] rfl rfl (by kernel_rfl) (fun _ _ _ h => h) (Or.inl ⟨by rfl, ?hy001_21⟩) hS ?ha001_21 ?rest001_21
        case hy001_21 =>
          intro W hW
          go_simp
          try with_reducible rfl
        case ha001_21 =>
          simp only [Act.put, List.setIfInBounds_toArray, List.set_cons_zero, List.set_cons_succ]
          rfl
        refine take_ (i := 22) (N := some 80) (v := ?v001_22) (a' := ?a001_22) #[true, true, true, true, true, true, true, true, true, true, true, true, true, true, true, true, true, true, true, true, true, true, true, false, false, false, false, false, false, false, false, false, false, false, false, false, false, false] rfl rfl (by kernel_rfl) (fun _ _ _ h => h) (Or.inl ⟨by rfl, ?hy001_22⟩) hS ?ha001_22 ?rest001_22
        case hy001_22 =>
          intro W hW
          go_simp
          try with_reducible rfl
        case ha001_22 =>
          simp only [Act.put, List.setIfInBounds_toArray, List.set_cons_zero, List.set_cons_succ]
          rfl
        refine take_ (i := 23) (N := some 81) (v := ?v001_23) (a' := ?a001_23) #[true, true, true, true, true, true, true, true, true, true, true, true, true, true, true, true, true, true, true, true, true, true, true, true, false, false, false, false, false, false, false, false, false, false, false, false, false, false] rfl rfl (by kernel_rfl) (fun _ _ _ h => h) (Or.inl ⟨by rfl, ?hy001_23⟩) hS ?ha001_23 ?rest001_23
        case hy001_23 =>
          intro W hW
          go_simp
          try with_reducible rfl
        case ha001_23 =>
          simp only [Act.put, List.setIfInBounds_toArray, List.set_cons_zero, List.set_cons_succ]
          rfl
        refine take_ (i := 24) (N := some 82) (v := ?v001_24) (a' := ?a001_24) #[true, true, true, true, true, true, true, true, true, true, true, true, true, true, true, true, true, true, true, true, true, true, true, true, true, false, false, false, false, false, false, false, false, false, false, false, false, false] rfl rfl (by kernel_rfl) (fun _ _ _ h => h) (Or.inl ⟨by rfl, ?hy001_24⟩) hS ?ha001_24 ?rest001_24
        case hy001_24 =>
          intro W hW
          go_simp
          try with_reducible rfl
        case ha001_24 =>
          simp only [Act.put, List.setIfInBounds_toArray, List.set_cons_zero, List.set_cons_succ]
          rfl
        refine take_ (i := 25) (N := some 83) (v := ?v001_25) (a' := ?a001_25) #[true, true, true, true, true, true, true, true, true, true, true, true, true, true, true, true, true, true, true, true, true, true, true, true, true, true, false, false, false, false, false, false, false, false, false, false, false, false] rfl rfl (by kernel_rfl) (fun _ _ _ h => h) (Or.inl ⟨by rfl, ?hy001_25⟩) hS ?ha001_25 ?rest001_25
        case hy001_25 =>
          intro W hW
          go_simp
          try with_reducible rfl
        case ha001_25 =>
          simp only [Act.put, List.setIfInBounds_toArray, List.set_cons_zero, List.set_cons_succ]
          rfl
        refine take_ (i := 27) (N := some 85) (v := ?v001_27) (a' := ?a001_27) #[true, true, true, true, true, true, true, true, true, true, true, true, true, true, true, true, true, true, true, true, true, true, true, true, true, true, false, true, false, false, false, false, false, false, false, false, false, false] rfl rfl (by kernel_rfl) (fun _ _ _ h => h) (Or.inl ⟨by rfl, ?hy001_27⟩) hS ?ha001_27 ?rest001_27
        case hy001_27 =>
          intro W hW
          obtain ⟨s0, s1, s2, s3, s4, s5, s6, s7⟩ := hW.cells
          go_simp
          try with_reducible rfl
        case ha001_27 =>
          simp only [Act.put, List.setIfInBounds_toArray, List.set_cons_zero, List.set_cons_succ]
          rfl
        refine one_ (i := 26) (N := some 84) #[true, true, true, true, true, true, true, true, true, true, true, true, true, true, true, true, true, true, true, true, true, true, true, true, true, true, true, true, false, false, false, false, false, false, false, false, false, false] rfl rfl (by kernel_rfl) (by decide) (fun K hK => ?_)
        go_simp
        refine (of_at 0 0 0 0 nob _).mono ?_
        rintro e w' ⟨A0, n0, rfl, hC0, hb⟩
        have k5 := hS.step hb
        refine hK.out _ _ k5 (fun hS5 => ?_)
        clear hb hK K k5 hS k4
        have hS := hS5
        have k4 := hS5
        clear hS5
        refine one_ (i := 28) (N := some 86) #[true, true, true, true, true, true, true, true, true, true, true, true, true, true, true, true, true, true, true, true, true, true, true, true, true, true, true, true, true, false, false, false, false, false, false, false, false, false] rfl rfl (by kernel_rfl) (by decide) (fun K hK => ?_)
        go_simp
        refine (hasOf_at A0 n0 0 0 0 0 nob a b c p nob_tiny tp.out _ hS.gw hC0 _ r0).mono ?_
        rintro e w' ⟨rfl, hb⟩
        have k5 := hS.step hb
        refine hK.out _ _ k5 (fun hS5 => ?_)
        clear hb hK K k5 hS k4 hC0
        have hS := hS5
        have k4 := hS5
        clear hS5
        refine take_ (i := 29) (N := some 87) (v := ?v001_29) (a' := ?a001_29) #[true, true, true, true, true, true, true, true, true, true, true, true, true, true, true, true, true, true, true, true, true, true, true, true, true, true, true, true, true, true, false, false, false, false, false, false, false, false] rfl rfl (by kernel_rfl) (fun _ _ _ h => h) (Or.inl ⟨by rfl, ?hy001_29⟩) hS ?ha001_29 ?rest001_29
        case hy001_29 =>
          intro W hW
          go_simp
          try with_reducible rfl
        case ha001_29 =>
          simp only [Act.put, List.setIfInBounds_toArray, List.set_cons_zero, List.set_cons_succ]
          rfl
        refine take_ (i := 30) (N := some 88) (v := ?v001_30) (a' := ?a001_30) #[true, true, true, true, true, true, true, true, true, true, true, true, true, true, true, true, true, true, true, true, true, true, true, true, true, true, true, true, true, true, true, false, false, false, false, false, false, false] rfl rfl (by kernel_rfl) (fun _ _ _ h => h) (Or.inl ⟨by rfl, ?hy001_30⟩) hS ?ha001_30 ?rest001_30
        case hy001_30 =>
          intro W hW
          go_simp
          try with_reducible rfl
        case ha001_30 =>
          simp only [Act.put, List.setIfInBounds_toArray, List.set_cons_zero, List.set_cons_succ]
          rfl
        refine take_ (i := 31) (N := some 89) (v := ?v001_31) (a' := ?a001_31) #[true, true, true, true, true, true, true, true, true, true, true, true, true, true, true, true, true, true, true, true, true, true, true, true, true, true, true, true, true, true, true, true, false, false, false, false, false, false] rfl rfl (by kernel_rfl) (fun _ _ _ h => h) (Or.inl ⟨by rfl, ?hy001_31⟩) hS ?ha001_31 ?rest001_31
        case hy001_31 =>
          intro W hW
          go_simp
          try with_reducible rfl
        case ha001_31 =>
          simp only [Act.put, List.setIfInBounds_toArray, List.set_cons_zero, List.set_cons_succ]
          rfl
        refine take_ (i := 32) (N := some 90) (v := ?v001_32) (a' := ?a001_32) #[true, true, true, true, true, true, true, true, true, true, true, true, true, true, true, true, true, true, true, true, true, true, true, true, true, true, true, true, true, true, true, true, true, false, false, false, false, false] rfl rfl (by kernel_rfl) (fun _ _ _ h => h) (Or.inl ⟨by rfl, ?hy001_32⟩) hS ?ha001_32 ?rest001_32
        case hy001_32 =>
          intro W hW
          obtain ⟨s0, s1, s2, s3, s4, s5, s6, s7⟩ := hW.cells
          go_simp
          try with_reducible rfl
        case ha001_32 =>
          simp only [Act.put, List.setIfInBounds_toArray, List.set_cons_zero, List.set_cons_succ]
          rfl
        refine take_ (i := 33) (N := some 91) (v := ?v001_33) (a' := ?a001_33) #[true, true, true, true, true, true, true, true, true, true, true, true, true, true, true, true, true, true, true, true, true, true, true, true, true, true, true, true, true, true, true, true, true, true, false, false, false, false] rfl rfl (by kernel_rfl) (fun _ _ _ h => h) (Or.inl ⟨by rfl, ?hy001_33⟩) hS ?ha001_33 ?rest001_33
        case hy001_33 =>
          intro W hW
          obtain ⟨s0, s1, s2, s3, s4, s5, s6, s7⟩ := hW.cells
          go_simp
          try with_reducible rfl
        case ha001_33 =>
          simp only [Act.put, List.setIfInBounds_toArray, List.set_cons_zero, List.set_cons_succ]
          rfl
        refine take_ (i := 34) (N := some 92) (v := .bool false) (a' := ?a001_34) #[true, true, true, true, true, true, true, true, true, true, true, true, true, true, true, true, true, true, true, true, true, true, true, true, true, true, true, true, true, true, true, true, true, true, true, false, false, false] rfl rfl (by kernel_rfl) (fun _ _ _ h => h) (Or.inl ⟨by rfl, ?hy001_34⟩) hS ?ha001_34 ?rest001_34
        case hy001_34 =>
          intro W hW
          go_simp
          exact fun e1 e2 e3 e4 => absurd (HQ.out.1 ⟨e1, e2, e3, e4⟩) (by decide)
        case ha001_34 =>
          simp only [Act.put, List.setIfInBounds_toArray, List.set_cons_zero, List.set_cons_succ]
          rfl
        refine take_ (i := 35) (N := some 93) (v := ?v001_35) (a' := ?a001_35) #[true, true, true, true, true, true, true, true, true, true, true, true, true, true, true, true, true, true, true, true, true, true, true, true, true, true, true, true, true, true, true, true, true, true, true, true, false, false] rfl rfl (by kernel_rfl) (fun _ _ _ h => h) (Or.inl ⟨by rfl, ?hy001_35⟩) hS ?ha001_35 ?rest001_35
        case hy001_35 =>
          intro W hW
          go_simp
          try with_reducible rfl
        case ha001_35 =>
          simp only [Act.put, List.setIfInBounds_toArray, List.set_cons_zero, List.set_cons_succ]
          rfl
        refine take_ (i := 36) (N := some 94) (v := ?v001_36) (a' := ?a001_36) #[true, true, true, true, true, true, true, true, true, true, true, true, true, true, true, true, true, true, true, true, true, true, true, true, true, true, true, true, true, true, true, true, true, true, true, true, true, false] rfl rfl (by kernel_rfl) (fun _ _ _ h => h) (Or.inl ⟨by rfl, ?hy001_36⟩) hS ?ha001_36 ?rest001_36
        case hy001_36 =>
          intro W hW
          go_simp
          try with_reducible rfl
        case ha001_36 =>
          simp only [Act.put, List.setIfInBounds_toArray, List.set_cons_zero, List.set_cons_succ]
          rfl
        refine take_ (i := 37) (N := some 4) (v := ?v001_37) (a' := ?a001_37) #[true, true, true, true, true, true, true, true, true, true, true, true, true, true, true, true, true, true, true, true, true, true, true, true, true, true, true, true, true, true, true, true, true, true, true, true, true, true] rfl rfl (by kernel_rfl) (fun _ _ _ h => h) (Or.inl ⟨by rfl, ?hy001_37⟩) hS ?ha001_37 ?rest001_37
        case hy001_37 =>
          intro W hW
          go_simp
          try with_reducible rfl
        case ha001_37 =>
          simp only [Act.put, List.setIfInBounds_toArray, List.set_cons_zero, List.set_cons_succ]
          rfl
        refine done_ (by kernel_rfl) ?_
        go_wp2_with fail
        go_ret
        exact ⟨rfl, hS.bel⟩
theorem Parts_out (a b c : Int) (p : ByteArray) (x y z : Int) (q : ByteArray) (w : World) (hG : Gw w) (h : ¬ p.size ≤ 100 ∨ (p.size ≤ 100 ∧ ¬ q.size ≤ 100) ∨ (p.size ≤ 100 ∧ q.size ≤ 100 ∧ rightB a b c p = false) ∨ (p.size ≤ 100 ∧ q.size ≤ 100 ∧ rightB a b c p = true ∧ rightB x y z q = false)) :
    Calls Tryz.prog 5 #[.agg (vC a b c p), .agg (vC x y z q)] w fun e w' => e = .returned (.bool true) ∧ Below w.heap.size w w' := by
  have hs : Two w ((w.alloc (.cells (vC a b c p) 38)).alloc (.cells (vC x y z q) 38)) w.heap.size (w.heap.size + 1) a b c p x y z q :=
    ⟨blk_alloc (World.alloc_heap_new _ _) _, by have := World.alloc_heap_new (w.alloc (.cells (vC a b c p) 38)) (.cells (vC x y z q) 38); simpa using this, below_alloc (below_alloc (Below.refl _ w) _) _, hG.below (below_alloc (below_alloc (Below.refl _ w) _) _)⟩
  clear hG
  go_enter Tryz.func5, Tryz.ntmps5
  go_wp2_with fail
  generalize hW : (w.alloc (.cells (vC a b c p) 38)).alloc (.cells (vC x y z q) 38) = W0 at *
  refine (anchor_at W0 hs.gw).mono ?_
  rintro e w1 ⟨rfl, hb1⟩
  have k1 := hs.step hb1
  clear hW hb1 hs
  have c0 := blk_cell k1.one 0
  have c1 := blk_cell k1.one 1
  have c2 := blk_cell k1.one 2
  have c3 := blk_cell k1.one 3
  have d3 := blk_cell k1.two 3
  rcases h with h | ⟨h, h2⟩ | ⟨h, h2, h3⟩ | ⟨h, h2, h3, h4⟩
  · have p1 : decide ((p.size : Int) > 100) = true := decide_eq_true (by omega)
    have p2 : decide ((100 : Int) < (p.size : Int)) = true := decide_eq_true (by omega)
    go_wp2_with fail
    go_ret
    exact ⟨rfl, k1.bel⟩
  · have p1 : decide ((p.size : Int) > 100) = false := decide_eq_false (by omega)
    have p2 : decide ((100 : Int) < (p.size : Int)) = false := decide_eq_false (by omega)
    have q1 : decide ((q.size : Int) > 100) = true := decide_eq_true (by omega)
    have q2 : decide ((100 : Int) < (q.size : Int)) = true := decide_eq_true (by omega)
    go_wp2_with fail
    go_ret
    exact ⟨rfl, k1.bel⟩
  · have p1 : decide ((p.size : Int) > 100) = false := decide_eq_false (by omega)
    have p2 : decide ((100 : Int) < (p.size : Int)) = false := decide_eq_false (by omega)
    have q1 : decide ((q.size : Int) > 100) = false := decide_eq_false (by omega)
    have q2 : decide ((100 : Int) < (q.size : Int)) = false := decide_eq_false (by omega)
    go_wp2_with fail
    refine (right_at a b c p (show p.size ≤ 1000 by omega) false h3 w1 k1.gw).mono ?_
    rintro e w2 ⟨rfl, hb2⟩
    have k2 := k1.step hb2
    clear hb2 c0 c1 c2 c3 d3 k1
    go_wp2_with fail
    go_ret
    exact ⟨rfl, k2.bel⟩
  · have p1 : decide ((p.size : Int) > 100) = false := decide_eq_false (by omega)
    have p2 : decide ((100 : Int) < (p.size : Int)) = false := decide_eq_false (by omega)
    have q1 : decide ((q.size : Int) > 100) = false := decide_eq_false (by omega)
    have q2 : decide ((100 : Int) < (q.size : Int)) = false := decide_eq_false (by omega)
    go_wp2_with fail
    refine (right_at a b c p (show p.size ≤ 1000 by omega) true h3 w1 k1.gw).mono ?_
    rintro e w2 ⟨rfl, hb2⟩
    have k2 := k1.step hb2
    clear hb2 c0 c1 c2 c3 d3 k1
    have d0 := blk_cell k2.two 0
    have d1 := blk_cell k2.two 1
    have d2 := blk_cell k2.two 2
    have d3 := blk_cell k2.two 3
    go_wp2_with fail
    refine (right_at x y z q (show q.size ≤ 1000 by omega) false h4 w2 k2.gw).mono ?_
    rintro e w3 ⟨rfl, hb3⟩
    have k3 := k2.step hb3
    clear hb3 k2 d0 d1 d2 d3
    go_wp2_with fail
    go_ret
    exact ⟨rfl, k3.bel⟩
theorem cmpV_eq_iff (a b c : Int) (p : ByteArray) (x y z : Int) (q : ByteArray) : (a = x ∧ b = y ∧ c = z ∧ p.toList = q.toList) ↔ cmpV a b c p x y z q = 0 := by
  rw [cmpV_ver]
  constructor
  · rintro ⟨rfl, rfl, rfl, h⟩
    have : p = q := by
      rw [ba_toList, ba_toList] at h
      exact ByteArray.ext (Array.ext' h)
    subst this
    exact ordV.self _ trivial
  · intro h
    have := ordV.zero _ _ trivial trivial h
    injection this with h1 h2 h3 h4
    exact ⟨h1, h2, h3, by rw [h4]⟩
theorem RangesParts_walk (a b c : Int) (p : ByteArray) (x y z : Int) (q : ByteArray) (w : World) (hG : Gw w) :
    Calls Tryz.prog 5 #[.agg #[.int .i64 a, .int .i64 b, .int .i64 c, .string p], .agg #[.int .i64 x, .int .i64 y, .int .i64 z, .string q]] w fun e w' => e = .returned (.bool true) ∧ Below w.heap.size w w' := by
  rcases Nat.lt_or_ge 100 p.size with hp | hp
  · exact Parts_out a b c p x y z q w hG (.inl (by omega))
  rcases Nat.lt_or_ge 100 q.size with hq | hq
  · exact Parts_out a b c p x y z q w hG (.inr (.inl ⟨hp, by omega⟩))
  cases hv : rightB a b c p with
  | false => exact Parts_out a b c p x y z q w hG (.inr (.inr (.inl ⟨hp, hq, hv⟩)))
  | true =>
    cases hw : rightB x y z q with
    | false => exact Parts_out a b c p x y z q w hG (.inr (.inr (.inr ⟨hp, hq, hv, hw⟩)))
    | true =>
      have hh : ∀ o : Int, 0 < o → o ≤ 7 → rangeH (ofR o x y z q) a b c p = hasV o x y z q a b c p := fun o h0 h7 => ofR_has (compR_op h0 h7 hw) hv
      refine Parts_main a b c p x y z q w hG hp hq hv hw (decide (cmpV a b c p x y z q < 0)) (cmpV a b c p x y z q == 0) (decide (cmpV a b c p x y z q > 0)) (decide (cmpV a b c p x y z q ≤ 0)) (decide (cmpV a b c p x y z q ≥ 0))
        (hh 2 (by omega) (by omega)) (hh 1 (by omega) (by omega)) (hh 4 (by omega) (by omega)) (hh 3 (by omega) (by omega)) (hh 5 (by omega) (by omega)) (ofR_has (show compR 0 0 0 0 nob = true by unfold compR; rw [if_pos rfl]; decide +kernel) hv) ?_ (Lib.hid ?_)
      · generalize cmpV a b c p x y z q = n
        rcases Int.lt_trichotomy n 0 with h | h | h
        · left; simp; omega
        · right; left; simp; omega
        · right; right; simp; omega
      · rw [cmpV_eq_iff, beq_iff_eq]
end Go.Proofs.YtckeeefeiljamaaGreatDoor
