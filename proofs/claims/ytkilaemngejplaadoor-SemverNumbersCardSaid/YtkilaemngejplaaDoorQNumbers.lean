/- SemverNumbers: marks of digits are ordered as numbers, and stand ahead of all others. -/
import Derived.Test.YtkilaemngejplaaDoorQn
import Derived.Test.YtkilaemngejplaaDoorQParses
import Derived.Test.YtkilaemngejplaaDoorFv
import Derived.Test.YtkilaemngejplaaDoorQo
import Derived.Lib.Hide
set_option linter.unusedSimpArgs false
set_option linter.unusedVariables false
namespace Go.Proofs.YtkilaemngejplaaDoor
open Go.RowKit Go.Lib Go.Shelf Go.Proofs.YtkilaemngejplaaDoorW.PrintWords Go.Proofs.YtkilaemngejplaaDoorW.PrintLast PSem

theorem cmpN_same (a b c : Int) (p q : ByteArray) : cmpVer ⟨a, b, c, p⟩ ⟨a, b, c, q⟩ = marksV p q := by
  rw [cmpVer_eq]
  show (if cmpI a a = 0 then (if cmpI b b = 0 then (if cmpI c c = 0 then marksV p q else _) else _) else _) = _
  rw [if_pos (cmpI_zero.2 rfl), if_pos (cmpI_zero.2 rfl), if_pos (cmpI_zero.2 rfl)]
theorem right_dig {x y z : Int} {a : Int} (h : a ≤ 999999) : rightB x y z (dgB a) = (inN x && (inN y && inN z)) := by
  unfold rightB; rw [dgB_pre h, Bool.and_true]
abbrev vC (a b c : Int) (p : ByteArray) : Array Value := #[.int .i64 a, .int .i64 b, .int .i64 c, .string p]
abbrev pA (m : ByteArray) : ByteArray := (⟨#[97]⟩ : ByteArray) ++ m
theorem right_at (a b c : Int) (p : ByteArray) (h : p.size ≤ 1000) (q : Bool) (hq : rightB a b c p = q) (w : World) (hG : Gw w) : Calls Tryd.prog 18 #[.agg (vC a b c p)] w fun e w' => e = .returned (.bool q) ∧ Below w.heap.size w w' := by
  subst hq
  obtain ⟨k, hk⟩ := (Right_E a b c p (by omega)).ex
  exact semver_Version_Right.calls k a b c p _ w hG hk
theorem cmp_at (a b c : Int) (p q : ByteArray) (h : p.size ≤ 1000) (h' : q.size ≤ 1000) (n : Int) (hn : marksV p q = n) (w : World) (hG : Gw w) : Calls Tryd.prog 16 #[.agg (vC a b c p), .agg (vC a b c q)] w fun e w' => e = .returned (.int .i64 n) ∧ Below w.heap.size w w' := by
  obtain ⟨k, hk⟩ := (Compare_E a b c p a b c q (by omega) (by omega)).ex
  rw [show cmpV a b c p a b c q = cmpVer ⟨a, b, c, p⟩ ⟨a, b, c, q⟩ from rfl, cmpN_same, hn] at hk
  exact semver_Compare.calls k a b c p a b c q n w hG hk
theorem dig_at (a : Int) (h0 : 0 ≤ a) (h1 : a ≤ 999999) (w : World) : Calls Tryd.prog 19 #[.int .i64 a] w fun e w' => e = .returned (.string (dgB a)) ∧ Below w.heap.size w w' := by
  obtain ⟨k, hk⟩ := (Dig_E a h0 h1).ex
  exact slipwaylaw01_SemverNumbers_1.calls k a _ w hk
theorem anchor_at (w : World) (hG : Gw w) : Calls Tryd.prog 11 #[] w fun e w' => e = .returned (.bool true) ∧ Below w.heap.size w w' := by
  obtain ⟨k, hk⟩ := anchor_E.ex
  exact slipwaylaw01_anchor.calls k _ w hG hk
theorem short_at (m : ByteArray) (w : World) : Calls Tryd.prog 12 #[.string m] w fun e w' => e = .returned (.bool (decide ((m.size : Int) ≤ 300))) ∧ Below w.heap.size w w' :=
  (slipwaylaw01_short.calls m _ w (short_some m)).mono fun e w' ⟨he, n, hn⟩ => ⟨he, hn ▸ below_drewN (Below.refl _ _) n⟩
theorem cmpI_cases (a b : Int) : (a < b ∧ cmpI a b = -1) ∨ (¬ a < b ∧ b < a ∧ cmpI a b = 1) ∨ (¬ a < b ∧ ¬ b < a ∧ cmpI a b = 0) := by
  unfold cmpI
  by_cases h : a < b
  · exact .inl ⟨h, if_pos h⟩
  · by_cases h' : b < a
    · exact .inr (.inl ⟨h, h', by rw [if_neg h]; exact if_pos h'⟩)
    · exact .inr (.inr ⟨h, h', by rw [if_neg h]; exact if_neg h'⟩)
set_option maxRecDepth 100000 in
set_option maxHeartbeats 4000000 in
theorem Numbers_main (x y z : Int) (p : ByteArray) (a b : Int) (m : ByteArray) (w : World) (hG : Gw w) (ha : 0 ≤ a ∧ a ≤ 999999) (hb : 0 ≤ b ∧ b ≤ 999999) (hm : (m.size : Int) ≤ 300) :
    Calls Tryd.prog 7 #[.agg (vC x y z p), .int .i64 a, .int .i64 b, .string m] w fun e w' => e = .returned (.bool true) ∧ Below w.heap.size w w' := by
  have a1 : decide (a < 0) = false := decide_eq_false (by omega)
  have a2 : decide (a > 999999) = false := decide_eq_false (by omega)
  have a2' : decide ((999999 : Int) < a) = false := decide_eq_false (by omega)
  have b1 : decide (b < 0) = false := decide_eq_false (by omega)
  have b2 : decide (b > 999999) = false := decide_eq_false (by omega)
  have b2' : decide ((999999 : Int) < b) = false := decide_eq_false (by omega)
  have HS := Lib.hid (fun W => short_at m W)
  rw [decide_eq_true hm] at HS
  have HA := Lib.hid (fun W h => anchor_at W h)
  have HD1 := Lib.hid (fun W => dig_at a ha.1 ha.2 W)
  have HD2 := Lib.hid (fun W => dig_at b hb.1 hb.2 W)
  have HG := Lib.hid hG
  have h0 : Below w.heap.size w (w.alloc (.cells (vC x y z p) 25)) := (Below.refl _ w).alloc (Nat.le_refl _) _
  have g0 : (w.alloc (.cells (vC x y z p) 25)).heap[w.heap.size]? = some (.cells (vC x y z p) 25 (0, 0)) := World.alloc_heap_new _ _
  clear hG
  go_enter Tryd.func7, Tryd.ntmps7
  go_wp2_with fail
  generalize hW : w.alloc (.cells (vC x y z p) 25) = W0 at *
  refine (HA.out W0 (HG.out.below h0)).mono ?_
  rintro e w1 ⟨rfl, hb1⟩
  have H1 := Lib.hid (h0.trans (hb1.mono h0.size))
  have G1 := Lib.hid ((hb1.block _ (Array.getElem?_eq_some_iff.1 g0).1).trans g0)
  clear hW hb1 h0 g0
  go_wp2_with fail
  refine (HS.out w1).mono ?_
  rintro e w2 ⟨rfl, hb2⟩
  have H2 := Lib.hid (H1.out.trans (hb2.mono H1.out.size))
  have G2 := Lib.hid ((hb2.block _ (Array.getElem?_eq_some_iff.1 G1.out).1).trans G1.out)
  clear hb2 G1 H1
  have c0 := cell_of_row G2.out
  go_wp2_with fail
  clear c0
  have H3 := Lib.hid (below_drew1 H2.out)
  have G3 : (w2.drew).heap[w.heap.size]? = some (.cells (vC x y z p) 25 (0, 0)) := blk_drew G2.out
  clear H2 G2
  refine start_ (n := 9) (S := fun W => W.heap[w.heap.size]? = some (.cells (vC x y z p) 25 (0, 0))) (ds := []) #[false, false, false, false, false, false, false, false, false] (by kernel_rfl) rfl rfl G3 (fun hH => ?_)
  generalize w2.drew = w3 at *
  refine take_ (i := 0) (N := some 35) (v := .agg (vC x y z p)) #[true, false, false, false, false, false, false, false, false] rfl rfl (by kernel_rfl) (fun _ _ _ h => h) (Or.inl ⟨by rfl, ?_⟩) hH rfl ?_
  · intro W hW
    have c0 := blk_cell hW 0
    have c1 := blk_cell hW 1
    have c2 := blk_cell hW 2
    have c3 := blk_cell hW 3
    go_simp
  refine take_ (i := 1) (N := some 36) (v := .agg (vC x y z p)) #[true, true, false, false, false, false, false, false, false] rfl rfl (by kernel_rfl) (fun _ _ _ h => h) (Or.inl ⟨by rfl, ?_⟩) hH rfl ?_
  · intro W hW
    have c0 := blk_cell hW 0
    have c1 := blk_cell hW 1
    have c2 := blk_cell hW 2
    have c3 := blk_cell hW 3
    go_simp
  refine take_ (i := 2) (N := some 37) (v := .agg (vC x y z p)) #[true, true, true, false, false, false, false, false, false] rfl rfl (by kernel_rfl) (fun _ _ _ h => h) (Or.inl ⟨by rfl, ?_⟩) hH rfl ?_
  · intro W hW
    have c0 := blk_cell hW 0
    have c1 := blk_cell hW 1
    have c2 := blk_cell hW 2
    have c3 := blk_cell hW 3
    go_simp
  refine alloc3 (i := 3) (j := 4) (k := 5) (Ni := 10) (Nj := 11) (Nk := 12) (n := 3) (c := .cells zeroC 25 (0, 0))
    (li := #[true, true, true, true, false, false, false, false, false]) (lj := #[true, true, true, false, true, false, false, false, false]) (lk := #[true, true, true, false, false, true, false, false, false])
    (lij := #[true, true, true, true, true, false, false, false, false]) (lik := #[true, true, true, true, false, true, false, false, false]) (ljk := #[true, true, true, false, true, true, false, false, false]) (m := #[true, true, true, true, true, true, false, false, false])
    rfl rfl rfl rfl rfl rfl rfl rfl rfl (by decide) (by decide) (by decide)
    (fun a W => run_alloc25 a _ rfl W) (fun a W => run_alloc25 a _ rfl W) (fun a W => run_alloc25 a _ rfl W) (by decide) (by decide) (by decide)
    (by kernel_rfl) (by kernel_rfl) (by kernel_rfl) (by kernel_rfl) (by kernel_rfl) (by kernel_rfl) (by kernel_rfl) (fun W hW => blk_alloc hW _) hH ?_
  intro g1 g2 g3 n12 n13 n23 p1 p2 p3
  have hsz := blk_lt hH
  have s1 : (w3.alloc (.cells zeroC 25 (0, 0))).heap.size = w3.heap.size + 1 := by simp
  have s2 : ((w3.alloc (.cells zeroC 25 (0, 0))).alloc (.cells zeroC 25 (0, 0))).heap.size = w3.heap.size + 2 := by simp
  have q0 := blk_alloc (blk_alloc (blk_alloc hH (.cells zeroC 25 (0, 0))) (.cells zeroC 25 (0, 0))) (.cells zeroC 25 (0, 0))
  have qa := blk_alloc (blk_alloc (blk_new w3 (.cells zeroC 25 (0, 0))) (.cells zeroC 25 (0, 0))) (.cells zeroC 25 (0, 0))
  have qb := blk_alloc (blk_new (w3.alloc (.cells zeroC 25 (0, 0))) (.cells zeroC 25 (0, 0))) (.cells zeroC 25 (0, 0))
  have qc := blk_new ((w3.alloc (.cells zeroC 25 (0, 0))).alloc (.cells zeroC 25 (0, 0))) (.cells zeroC 25 (0, 0))
  rw [s1] at qb
  rw [s2] at qc
  have hb4 := below_alloc (below_alloc (below_alloc H3.out (.cells zeroC 25 (0, 0))) (.cells zeroC 25 (0, 0))) (.cells zeroC 25 (0, 0))
  generalize hWa : ((w3.alloc (.cells zeroC 25 (0, 0))).alloc (.cells zeroC 25 (0, 0))).alloc (.cells zeroC 25 (0, 0)) = W4 at *
  have r1 : W4.heap[g1]? = some (.cells zeroC 25 (0, 0)) := by rcases p1 with h | h | h <;> rw [h] <;> assumption
  have r2 : W4.heap[g2]? = some (.cells zeroC 25 (0, 0)) := by rcases p2 with h | h | h <;> rw [h] <;> assumption
  have r3 : W4.heap[g3]? = some (.cells zeroC 25 (0, 0)) := by rcases p3 with h | h | h <;> rw [h] <;> assumption
  have o1 : w.heap.size < g1 := by omega
  have o2 : w.heap.size < g2 := by omega
  have o3 : w.heap.size < g3 := by omega
  clear qa qb qc s1 s2 hsz hWa p1 p2 p3 hH G3 H3
  refine norm_ (a' := ?_) ?_ ?_
  rotate_left
  · simp only [Act.put, List.setIfInBounds_toArray, List.set_cons_zero, List.set_cons_succ]
    rfl
  refine one_ (i := 6) (N := none) #[true, true, true, true, true, true, true, false, false] rfl rfl (by kernel_rfl) (by decide) (fun K hK => ?_)
  refine store25_ rfl rfl rfl rfl rfl r1 (fun W5 t1 k5 b5 => ?_)
  have q5 := (k5 _ (Nat.ne_of_lt o1)).trans q0
  refine hK.out _ _ q5 fun hS5 => ?_
  have s2 := (k5 _ (Ne.symm n12)).trans r2
  have s3 := (k5 _ (Ne.symm n13)).trans r3
  have hb5 := b5 _ _ rfl hb4 (Nat.le_of_lt o1)
  clear hS5 hK K k5 b5 r1 r2 r3 q0 hb4 W4
  refine one_ (i := 7) (N := none) #[true, true, true, true, true, true, true, true, false] rfl rfl (by kernel_rfl) (by decide) (fun K hK => ?_)
  refine store25_ rfl rfl rfl rfl rfl s2 (fun W6 t2 k6 b6 => ?_)
  have q6 := (k6 _ (Nat.ne_of_lt o2)).trans q5
  refine hK.out _ _ q6 fun hS6 => ?_
  have u1 := (k6 _ n12).trans t1
  have u3 := (k6 _ (Ne.symm n23)).trans s3
  have hb6 := b6 _ _ rfl hb5 (Nat.le_of_lt o2)
  clear hS6 hK K k6 b6 t1 s2 s3 q5 hb5 W5
  refine one_ (i := 8) (N := none) #[true, true, true, true, true, true, true, true, true] rfl rfl (by kernel_rfl) (by decide) (fun K hK => ?_)
  refine store25_ rfl rfl rfl rfl rfl u3 (fun W7 t3 k7 b7 => ?_)
  have q7 := (k7 _ (Nat.ne_of_lt o3)).trans q6
  refine hK.out _ _ q7 fun hS7 => ?_
  have v1 := Lib.hid ((k7 _ n13).trans u1)
  have v2 := Lib.hid ((k7 _ n23).trans t2)
  have v3 := Lib.hid t3
  have Q7 := Lib.hid q7
  have H7 := Lib.hid (b7 _ _ rfl hb6 (Nat.le_of_lt o3))
  clear hS7 hK K k7 b7 u1 u3 t2 t3 q6 q7 hb6 W6
  refine done_ (by kernel_rfl) ?_
  go_wp2_with fail
  refine (HD1.out W7).mono ?_
  rintro e w8 ⟨rfl, hb8⟩
  have v1' := Lib.hid (blk_below v1.out hb8)
  have v2' := Lib.hid (blk_below v2.out hb8)
  have v3' := Lib.hid (blk_below v3.out hb8)
  have Q8 := Lib.hid (blk_below Q7.out hb8)
  have H8 := Lib.hid (below_step H7.out hb8)
  clear hb8 v1 v2 v3 Q7 H7
  go_wp2_with fail
  refine (HD2.out w8).mono ?_
  rintro e w9 ⟨rfl, hb9⟩
  have v1 := Lib.hid (blk_below v1'.out hb9)
  have v2 := Lib.hid (blk_below v2'.out hb9)
  have v3 := Lib.hid (blk_below v3'.out hb9)
  have Q9 := Lib.hid (blk_below Q8.out hb9)
  have H9 := Lib.hid (below_step H8.out hb9)
  clear hb9 v1' v2' v3' Q8 H8
  have hroom : ((97 : Int) : Int) = 97 := rfl
  clear hroom
  have c1 := (blk_cell v1.out 3).trans rfl
  have c2 := (blk_cell v2.out 3).trans rfl
  have c3 := (blk_cell v3.out 3).trans rfl
  have f1 := blk_frozen v1.out 3
  have f2 := blk_frozen v2.out 3
  have f3 := blk_frozen v3.out 3
  have d0 := (blk_cell v1.out 0).trans rfl
  have d1 := (blk_cell v1.out 1).trans rfl
  have d2 := (blk_cell v1.out 2).trans rfl
  go_wp2_with fail
  have V1 := Lib.hid (blk_far (p := ⟨g3, 3, none⟩) (blk_far (p := ⟨g2, 3, none⟩) (blk_set v1.out 3 (.string (dgB a))) n12 (.string (dgB b))) n13 (.string (pA m)))
  have V2 := Lib.hid (blk_far (p := ⟨g3, 3, none⟩) (blk_set (blk_far (p := ⟨g1, 3, none⟩) v2.out (Ne.symm n12) (.string (dgB a))) 3 (.string (dgB b))) n23 (.string (pA m)))
  have V3 := Lib.hid (blk_set (blk_far (p := ⟨g2, 3, none⟩) (blk_far (p := ⟨g1, 3, none⟩) v3.out (Ne.symm n13) (.string (dgB a))) (Ne.symm n23) (.string (dgB b))) 3 (.string (pA m)))
  have QA := Lib.hid (blk_far (p := ⟨g3, 3, none⟩) (blk_far (p := ⟨g2, 3, none⟩) (blk_far (p := ⟨g1, 3, none⟩) Q9.out (Nat.ne_of_lt o1) (.string (dgB a))) (Nat.ne_of_lt o2) (.string (dgB b))) (Nat.ne_of_lt o3) (.string (pA m)))
  have HA9 := Lib.hid (below_set (j := 3) (v := .string (pA m)) (below_set (j := 3) (v := .string (dgB b)) (below_set (j := 3) (v := .string (dgB a)) H9.out (Nat.le_of_lt o1)) (Nat.le_of_lt o2)) (Nat.le_of_lt o3))
  clear d0 d1 d2 c1 c2 c3 f1 f2 f3 v1 v2 v3 Q9 H9
  generalize ((w9.setCell _ _).setCell _ _).setCell _ _ = wA at *
  have U1 := Lib.hid (show wA.heap[g1]? = some (.cells (vC x y z (dgB a)) 25 (0, 0)) from V1.out)
  have U2 := Lib.hid (show wA.heap[g2]? = some (.cells (vC x y z (dgB b)) 25 (0, 0)) from V2.out)
  have U3 := Lib.hid (show wA.heap[g3]? = some (.cells (vC x y z (pA m)) 25 (0, 0)) from V3.out)
  have GA := HG.out.below HA9.out
  clear V1 V2 V3
  have da := dgB_size ha.2
  have db := dgB_size hb.2
  by_cases hN : (inN x && (inN y && inN z)) = true
  · refine (right_at x y z (dgB a) (by omega) true (by rw [right_dig ha.2]; exact hN) wA GA).mono ?_
    rintro e wB ⟨rfl, hbB⟩
    have V1 := Lib.hid (blk_below U1.out hbB)
    have V2 := Lib.hid (blk_below U2.out hbB)
    have V3 := Lib.hid (blk_below U3.out hbB)
    have QB := Lib.hid (blk_below QA.out hbB)
    have HB := Lib.hid (below_step HA9.out hbB)
    clear hbB U1 U2 U3 QA HA9 GA
    have d0 := (blk_cell V2.out 0).trans rfl
    have d1 := (blk_cell V2.out 1).trans rfl
    have d2 := (blk_cell V2.out 2).trans rfl
    have d3 := (blk_cell V2.out 3).trans rfl
    go_wp2_with fail
    refine (right_at x y z (dgB b) (by omega) true (by rw [right_dig hb.2]; exact hN) wB (HG.out.below HB.out)).mono ?_
    rintro e wC ⟨rfl, hbC⟩
    have U1 := Lib.hid (blk_below V1.out hbC)
    have U2 := Lib.hid (blk_below V2.out hbC)
    have U3 := Lib.hid (blk_below V3.out hbC)
    have HC := Lib.hid (below_step HB.out hbC)
    clear hbC V1 V2 V3 QB HB d0 d1 d2 d3
    have d0 := (blk_cell U1.out 0).trans rfl
    have d1 := (blk_cell U1.out 1).trans rfl
    have d2 := (blk_cell U1.out 2).trans rfl
    have d3 := (blk_cell U1.out 3).trans rfl
    have e0 := (blk_cell U2.out 0).trans rfl
    have e1 := (blk_cell U2.out 1).trans rfl
    have e2 := (blk_cell U2.out 2).trans rfl
    have e3 := (blk_cell U2.out 3).trans rfl
    go_wp2_with fail
    all_goals refine (cmp_at x y z (dgB a) (dgB b) (by omega) (by omega) (cmpI a b) (marks_num ha.1 ha.2 hb.1 hb.2) wC (HG.out.below HC.out)).mono ?_
    all_goals rintro e wD ⟨rfl, hbD⟩
    all_goals have V1 := Lib.hid (blk_below U1.out hbD)
    all_goals have V3 := Lib.hid (blk_below U3.out hbD)
    all_goals have HD := Lib.hid (below_step HC.out hbD)
    all_goals clear hbD U1 U2 U3 HC d0 d1 d2 d3 e0 e1 e2 e3
    all_goals have d0 := (blk_cell V3.out 0).trans rfl
    all_goals have d1 := (blk_cell V3.out 1).trans rfl
    all_goals have d2 := (blk_cell V3.out 2).trans rfl
    all_goals have d3 := (blk_cell V3.out 3).trans rfl
    all_goals have hcmp := cmpI_cases a b
    all_goals rcases hcmp with ⟨_, hc⟩ | ⟨_, _, hc⟩ | ⟨_, _, hc⟩ <;> try (exfalso; omega)
    all_goals rw [hc]
    all_goals clear hc
    all_goals cases hq : rightB x y z (pA m)
    all_goals go_wp2_with fail
    all_goals refine (right_at x y z (pA m) (by rw [ByteArray.size_append]; show 1 + m.size ≤ 1000; omega) _ hq wD (HG.out.below HD.out)).mono ?_
    all_goals rintro e wE ⟨rfl, hbE⟩
    all_goals have U1 := Lib.hid (blk_below V1.out hbE)
    all_goals have U3 := Lib.hid (blk_below V3.out hbE)
    all_goals have HE := Lib.hid (below_step HD.out hbE)
    all_goals clear hbE V1 V3 HD d0 d1 d2 d3
    all_goals have d0 := (blk_cell U3.out 0).trans rfl
    all_goals have d1 := (blk_cell U3.out 1).trans rfl
    all_goals have d2 := (blk_cell U3.out 2).trans rfl
    all_goals have d3 := (blk_cell U3.out 3).trans rfl
    all_goals have e0 := (blk_cell U1.out 0).trans rfl
    all_goals have e1 := (blk_cell U1.out 1).trans rfl
    all_goals have e2 := (blk_cell U1.out 2).trans rfl
    all_goals have e3 := (blk_cell U1.out 3).trans rfl
    all_goals go_wp2_with fail
    all_goals first
      | (go_ret
         exact ⟨rfl, HE.out⟩)
      | skip
    all_goals refine (cmp_at x y z (dgB a) (pA m) (by omega) (by rw [ByteArray.size_append]; show 1 + m.size ≤ 1000; omega) (-1) (marks_word ha.2 m) wE (HG.out.below HE.out)).mono ?_
    all_goals rintro e wF ⟨rfl, hbF⟩
    all_goals have HF := Lib.hid (below_step HE.out hbF)
    all_goals clear hbF HE U1 U3 d0 d1 d2 d3 e0 e1 e2 e3
    all_goals go_wp2_with fail
    all_goals go_ret
    all_goals exact ⟨rfl, HF.out⟩
  · have hN' := Bool.eq_false_iff.2 hN
    have hN2 : x < 0 ∨ y < 0 ∨ z < 0 ∨ 999999 < x ∨ 999999 < y ∨ 999999 < z := by
      simp only [Bool.and_eq_true, inN_iff] at hN
      omega
    refine (right_at x y z (dgB a) (by omega) false (by rw [right_dig ha.2]; exact hN') wA GA).mono ?_
    rintro e wB ⟨rfl, hbB⟩
    have QB := Lib.hid (blk_below QA.out hbB)
    have HB := Lib.hid (below_step HA9.out hbB)
    clear hbB U1 U2 U3 QA HA9 GA
    have d0 := (blk_cell QB.out 0).trans rfl
    have d1 := (blk_cell QB.out 1).trans rfl
    have d2 := (blk_cell QB.out 2).trans rfl
    have d3 := (blk_cell QB.out 3).trans rfl
    go_wp2_with fail
    all_goals go_ret
    all_goals refine ⟨?_, HB.out⟩
    all_goals first
      | rfl
      | skip
    all_goals refine congrArg (fun q => Ending.returned (Value.bool q)) ?_
    all_goals simp only [Bool.or_eq_true, decide_eq_true_eq]
    all_goals first
      | omega
      | (split at * <;> omega)
/-- What ends at once: an argument that is out of bounds. -/
theorem Numbers_out (x y z : Int) (p : ByteArray) (a b : Int) (m : ByteArray) (w : World) (hG : Gw w) (h : a < 0 ∨ (0 ≤ a ∧ b < 0) ∨ (0 ≤ a ∧ 0 ≤ b ∧ 999999 < a) ∨ (0 ≤ a ∧ 0 ≤ b ∧ a ≤ 999999 ∧ 999999 < b) ∨ (0 ≤ a ∧ 0 ≤ b ∧ a ≤ 999999 ∧ b ≤ 999999 ∧ ¬ (m.size : Int) ≤ 300)) :
    Calls Tryd.prog 7 #[.agg (vC x y z p), .int .i64 a, .int .i64 b, .string m] w fun e w' => e = .returned (.bool true) ∧ Below w.heap.size w w' := by
  have HS := Lib.hid (fun W => short_at m W)
  have HA := Lib.hid (fun W h => anchor_at W h)
  have h0 : Below w.heap.size w (w.alloc (.cells (vC x y z p) 25)) := (Below.refl _ w).alloc (Nat.le_refl _) _
  go_enter Tryd.func7, Tryd.ntmps7
  go_wp2_with fail
  generalize hW : w.alloc (.cells (vC x y z p) 25) = W0 at *
  refine (HA.out W0 (hG.below h0)).mono ?_
  rintro e w1 ⟨rfl, hb1⟩
  have H1 := Lib.hid (h0.trans (hb1.mono h0.size))
  clear hW hb1 h0 hG
  rcases h with h | ⟨h, h'⟩ | ⟨h, h', h''⟩ | ⟨h, h', h'', h3⟩ | ⟨h, h', h'', h3, h4⟩
  · have a1 : decide (a < 0) = true := decide_eq_true h
    go_wp2_with fail
    go_ret
    exact ⟨rfl, H1.out⟩
  · have a1 : decide (a < 0) = false := decide_eq_false (by omega)
    have a2 : decide (b < 0) = true := decide_eq_true (by omega)
    go_wp2_with fail
    go_ret
    exact ⟨rfl, H1.out⟩
  · have a1 : decide (a < 0) = false := decide_eq_false (by omega)
    have a2 : decide (b < 0) = false := decide_eq_false (by omega)
    have a3 : decide (999999 < a) = true := decide_eq_true (by omega)
    have a3' : decide (a > 999999) = true := decide_eq_true (by omega)
    go_wp2_with fail
    go_ret
    exact ⟨rfl, H1.out⟩
  · have a1 : decide (a < 0) = false := decide_eq_false (by omega)
    have a2 : decide (b < 0) = false := decide_eq_false (by omega)
    have a3 : decide (999999 < a) = false := decide_eq_false (by omega)
    have a3' : decide (a > 999999) = false := decide_eq_false (by omega)
    have a4 : decide (999999 < b) = true := decide_eq_true (by omega)
    have a4' : decide (b > 999999) = true := decide_eq_true (by omega)
    go_wp2_with fail
    go_ret
    exact ⟨rfl, H1.out⟩
  · have a1 : decide (a < 0) = false := decide_eq_false (by omega)
    have a2 : decide (b < 0) = false := decide_eq_false (by omega)
    have a3 : decide (999999 < a) = false := decide_eq_false (by omega)
    have a3' : decide (a > 999999) = false := decide_eq_false (by omega)
    have a4 : decide (999999 < b) = false := decide_eq_false (by omega)
    have a4' : decide (b > 999999) = false := decide_eq_false (by omega)
    rw [decide_eq_false (show ¬ (m.size : Int) ≤ 300 by omega)] at HS
    go_wp2_with fail
    refine (HS.out w1).mono ?_
    rintro e w2 ⟨rfl, hb2⟩
    have H2 := Lib.hid (H1.out.trans (hb2.mono H1.out.size))
    clear hb2 H1
    go_wp2_with fail
    go_ret
    exact ⟨rfl, H2.out⟩
theorem Numbers_walk (v : Ver) (a b : Int) (m : ByteArray) (w : World) (hG : Gw w) :
    Calls Tryd.prog 7 #[.agg #[.int .i64 v.a, .int .i64 v.b, .int .i64 v.c, .string v.p], .int .i64 a, .int .i64 b, .string m] w fun e w' => e = .returned (.bool true) ∧ Below w.heap.size w w' := by
  by_cases h : (0 ≤ a ∧ a ≤ 999999) ∧ (0 ≤ b ∧ b ≤ 999999) ∧ (m.size : Int) ≤ 300
  · exact Numbers_main v.a v.b v.c v.p a b m w hG h.1 h.2.1 h.2.2
  · exact Numbers_out v.a v.b v.c v.p a b m w hG (by omega)
end Go.Proofs.YtkilaemngejplaaDoor
