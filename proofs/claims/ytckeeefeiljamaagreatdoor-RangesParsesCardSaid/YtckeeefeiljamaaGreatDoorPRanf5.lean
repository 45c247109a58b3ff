-- Written by a program of this session (wip/pgiven.py) out of the translation: functions as the program has them, with their proofs.
import Derived.Test.YtckeeefeiljamaaGreatDoorXG
import Derived.Test.YtckeeefeiljamaaGreatDoorXJ
import Derived.Test.YtckeeefeiljamaaGreatDoorPRanx2
namespace Go.Proofs.YtckeeefeiljamaaGreatDoor.PRan
open Go.RowKit Go.Proofs.YtckeeefeiljamaaGreatDoorW.PrintWords Go.Proofs.YtckeeefeiljamaaGreatDoorW.PrintLast Go.Proofs.YtckeeefeiljamaaGreatDoorW.PrintMore
attribute [local go_sem] max2_int min2_int max_two min_two max_three min_three max_four min_four   -- for this text's walks alone
set_option linter.unusedVariables false
set_option linter.unusedSimpArgs false

attribute [local go_sem high] eqA53
/-! ### slipwaylaw02_alike: function 15 -/
mutual
def slipwaylaw02_alike.l0 : Nat → List (List (S53)) → Int → Int → List (List (S53)) → Option (Bool)
  | 0, _, _, _, _ => none
  | k + 1, x17, x18, x19, x163000 => if x19 < x18 then (if 0 ≤ x19 then (if x19 < (x17.length : Int) then (if x19 < (x163000.length : Int) then (if ((rd_L4 x17 x19).length : Int) = ((rd_L4 x163000 x19).length : Int) then (slipwaylaw02_alike.l1 k x19 x17 x18 x19 (rd_L4 x17 x19) ((rd_L4 x17 x19).length : Int) 0 x163000) else (some false)) else (none)) else (none)) else (none)) else (some true)
def slipwaylaw02_alike.l1 : Nat → Int → List (List (S53)) → Int → Int → List (S53) → Int → Int → List (List (S53)) → Option (Bool)
  | 0, _, _, _, _, _, _, _, _ => none
  | k + 1, x5, x17, x18, x19, x33, x34, x35, x163000 => if x35 < x34 then (if 0 ≤ x35 then (if x35 < (x33.length : Int) then (if 0 ≤ x5 then (if x5 < (x163000.length : Int) then (if x35 < ((rd_L4 x163000 x5).length : Int) then (if (!(((rd_T53 x33 x35).f0) == ((rd_T53 (rd_L4 x163000 x5) x35).f0)) || ((!(((rd_T53 x33 x35).f1.f0) == ((rd_T53 (rd_L4 x163000 x5) x35).f1.f0)) || (!(((rd_T53 x33 x35).f1.f1) == ((rd_T53 (rd_L4 x163000 x5) x35).f1.f1)) || (!(((rd_T53 x33 x35).f1.f2) == ((rd_T53 (rd_L4 x163000 x5) x35).f1.f2)) || (!((((rd_T53 x33 x35).f1.f3).toList) == (((rd_T53 (rd_L4 x163000 x5) x35).f1.f3).toList)))))))) = true then (some false) else (slipwaylaw02_alike.l1 k x5 x17 x18 x19 x33 x34 (wrap64 (x35 + 1)) x163000)) else (none)) else (none)) else (none)) else (none)) else (none)) else (slipwaylaw02_alike.l0 k x17 x18 (wrap64 (x19 + 1)) x163000)
end
def slipwaylaw02_alike.f (k : Nat) (l0_0 : List (List (S53))) (l1_0 : List (List (S53))) : Option (Bool) := if (l0_0.length : Int) = (l1_0.length : Int) then (slipwaylaw02_alike.l0 k l0_0 (l0_0.length : Int) 0 l1_0) else (some false)
theorem slipwaylaw02_alike.mono_l : ∀ k, (∀ y0 y1 y2 y3, LeO (slipwaylaw02_alike.l0 k y0 y1 y2 y3) (slipwaylaw02_alike.l0 (k + 1) y0 y1 y2 y3)) ∧ (∀ y0 y1 y2 y3 y4 y5 y6 y7, LeO (slipwaylaw02_alike.l1 k y0 y1 y2 y3 y4 y5 y6 y7) (slipwaylaw02_alike.l1 (k + 1) y0 y1 y2 y3 y4 y5 y6 y7))
  | 0 => ⟨fun _ _ _ _ r h => by simp [slipwaylaw02_alike.l0] at h, fun _ _ _ _ _ _ _ _ r h => by simp [slipwaylaw02_alike.l1] at h⟩
  | k + 1 => by
    obtain ⟨ih0, ih1⟩ := slipwaylaw02_alike.mono_l k
    refine ⟨?_, ?_⟩
    · intro y0 y1 y2 y3
      unfold slipwaylaw02_alike.l0
      repeat' first
      | (with_reducible exact ih0 _ _ _ _)
      | (with_reducible exact ih1 _ _ _ _ _ _ _ _)
      | (with_reducible exact LeO.refl _)
      | (with_reducible exact LeO.none _)
      | (with_reducible refine LeO.ite ?_ ?_)
      | (with_reducible refine LeO.bind ?_ (fun _ => ?_))
      | exact ih0 _ _ _ _
      | exact ih1 _ _ _ _ _ _ _ _
      | exact LeO.none _
      | refine LeO.ite ?_ ?_
      | refine LeO.bind ?_ (fun _ => ?_)
    · intro y0 y1 y2 y3 y4 y5 y6 y7
      unfold slipwaylaw02_alike.l1
      repeat' first
      | (with_reducible exact ih0 _ _ _ _)
      | (with_reducible exact ih1 _ _ _ _ _ _ _ _)
      | (with_reducible exact LeO.refl _)
      | (with_reducible exact LeO.none _)
      | (with_reducible refine LeO.ite ?_ ?_)
      | (with_reducible refine LeO.bind ?_ (fun _ => ?_))
      | exact ih0 _ _ _ _
      | exact ih1 _ _ _ _ _ _ _ _
      | exact LeO.none _
      | refine LeO.ite ?_ ?_
      | refine LeO.bind ?_ (fun _ => ?_)
theorem slipwaylaw02_alike.mono : ∀ a0 a1 k, LeO (slipwaylaw02_alike.f k a0 a1) (slipwaylaw02_alike.f (k + 1) a0 a1) := by
  intro a0 a1 k
  obtain ⟨ih0, ih1⟩ := slipwaylaw02_alike.mono_l k
  unfold slipwaylaw02_alike.f
  repeat' first
      | (with_reducible exact ih0 _ _ _ _)
      | (with_reducible exact ih1 _ _ _ _ _ _ _ _)
      | (with_reducible exact LeO.refl _)
      | (with_reducible exact LeO.none _)
      | (with_reducible refine LeO.ite ?_ ?_)
      | (with_reducible refine LeO.bind ?_ (fun _ => ?_))
      | exact ih0 _ _ _ _
      | exact ih1 _ _ _ _ _ _ _ _
      | exact LeO.none _
      | refine LeO.ite ?_ ?_
      | refine LeO.bind ?_ (fun _ => ?_)
set_option maxHeartbeats 8000000 in
set_option maxRecDepth 100000 in
theorem slipwaylaw02_alike.calls (k : Nat) (A0_0 : Option Addr) (c0_0 : Nat) (l0_0 : List (List (S53))) (A1_0 : Option Addr) (c1_0 : Nat) (l1_0 : List (List (S53))) (r : Bool) (w : World) (hr0_0 : Kd.C (Kd.slice 53 k53) w A0_0 l0_0.length l0_0) (hc0_0 : l0_0.length ≤ c0_0) (hr1_0 : Kd.C (Kd.slice 53 k53) w A1_0 l1_0.length l1_0) (hc1_0 : l1_0.length ≤ c1_0) (h : slipwaylaw02_alike.f k l0_0 l1_0 = some r) :
    Calls Tryz.prog 15 #[.agg #[.slice A0_0 l0_0.length c0_0], .agg #[.slice A1_0 l1_0.length c1_0]] w fun e w' => e = .returned (.bool r) ∧ Below w.heap.size w w' := by
  have hu31 := Tryz.underlying31
  have hu53 := Tryz.underlying53
  have HR0_0 := Aside0.mk hr0_0
  have HC0_0 := Aside0.mk hc0_0
  clear hr0_0 hc0_0
  have HR1_0 := Aside0.mk hr1_0
  have HC1_0 := Aside0.mk hc1_0
  clear hr1_0 hc1_0
  have HB := Aside0.mk (Below.refl w.heap.size w)
  have H : (if (l0_0.length : Int) = (l1_0.length : Int) then (slipwaylaw02_alike.l0 k l0_0 (l0_0.length : Int) 0 l1_0) else (some false)) = some r := h
  clear h
  by_cases c3 : (l0_0.length : Int) = (l1_0.length : Int)
  · rw [if_pos c3] at H
    have c3b0 : ((l0_0.length : Int) == (l1_0.length : Int)) = true := beq_iff_eq.mpr c3
    have c3b1 : ((l0_0.length : Int) != (l1_0.length : Int)) = false := bne_eq_false_iff_eq.mpr c3
    have c3b2 : (l0_0.length == l1_0.length) = true := by first | simpa using c3 | (simp at c3 ⊢; omega)
    clear c3
    have H' := Aside0.mk H
    clear H
    go_enter Tryz.func15, Tryz.ntmps15
    go_wp2_with (first | ((with_reducible refine gate_dst (N := 2) rfl ?_); refine box_event ?hg (N := 2) ?hd (cs := #[.slice A0_0 l0_0.length c0_0]) (t := 31) ?hr ?_; (case hd => rfl); (case hg => rfl); (case hr => first | (go_simp; done) | (go_simp; rfl)); intro gb161 hg w4 hbox hb; have n0_ := zs HB hb; have n1_ := Aside0.mk (hbox); have n2_ := zz HB hg; have n3_ := zz HB hg; clear HB; have HB := n0_; have BK161 := n1_; have GW161 := n2_; have GE161 := n3_; clear n0_ n1_ n2_ n3_; clear hb hbox hg) | ((with_reducible refine gate_dst (N := 3) rfl ?_); refine box_event ?hg (N := 3) ?hd (cs := #[.slice A1_0 l1_0.length c1_0]) (t := 31) ?hr ?_; (case hd => rfl); (case hg => rfl); (case hr => first | (go_simp; done) | (go_simp; rfl)); intro gb162 hg w5 hbox hb; have n0_ := zb BK161 hb; have n1_ := zs HB hb; have n2_ := Aside0.mk (hbox); have n3_ := zz HB hg; have n4_ := zz HB hg; have n5_ := zn BK161 hg; have n6_ := zm BK161 hg; clear BK161; clear HB; have BK161 := n0_; have HB := n1_; have BK162 := n2_; have GW162 := n3_; have GE162 := n4_; have NB161_162 := n5_; have NB162_161 := n6_; clear n0_ n1_ n2_ n3_ n4_ n5_ n6_; clear hb hbox hg; have hnb6 := NB161_162.out; have hnc6 := NB162_161.out; have hcz7_0 := zc1 BK161; have hfz7_0 := zf1 BK161; have hcz8_0 := zc1 BK162; have hfz8_0 := zf1 BK162))
    repeat (go_quiet (first | ((with_reducible refine gate_dst (N := 2) rfl ?_); refine box_event ?hg (N := 2) ?hd (cs := #[.slice A0_0 l0_0.length c0_0]) (t := 31) ?hr ?_; (case hd => rfl); (case hg => rfl); (case hr => first | (go_simp; done) | (go_simp; rfl)); intro gb161 hg w4 hbox hb; have n0_ := zs HB hb; have n1_ := Aside0.mk (hbox); have n2_ := zz HB hg; have n3_ := zz HB hg; clear HB; have HB := n0_; have BK161 := n1_; have GW161 := n2_; have GE161 := n3_; clear n0_ n1_ n2_ n3_; clear hb hbox hg) | ((with_reducible refine gate_dst (N := 3) rfl ?_); refine box_event ?hg (N := 3) ?hd (cs := #[.slice A1_0 l1_0.length c1_0]) (t := 31) ?hr ?_; (case hd => rfl); (case hg => rfl); (case hr => first | (go_simp; done) | (go_simp; rfl)); intro gb162 hg w5 hbox hb; have n0_ := zb BK161 hb; have n1_ := zs HB hb; have n2_ := Aside0.mk (hbox); have n3_ := zz HB hg; have n4_ := zz HB hg; have n5_ := zn BK161 hg; have n6_ := zm BK161 hg; clear BK161; clear HB; have BK161 := n0_; have HB := n1_; have BK162 := n2_; have GW162 := n3_; have GE162 := n4_; have NB161_162 := n5_; have NB162_161 := n6_; clear n0_ n1_ n2_ n3_ n4_ n5_ n6_; clear hb hbox hg; have hnb6 := NB161_162.out; have hnc6 := NB162_161.out; have hcz7_0 := zc1 BK161; have hfz7_0 := zf1 BK161; have hcz8_0 := zc1 BK162; have hfz8_0 := zf1 BK162)); try go_wp2_with (first | ((with_reducible refine gate_dst (N := 2) rfl ?_); refine box_event ?hg (N := 2) ?hd (cs := #[.slice A0_0 l0_0.length c0_0]) (t := 31) ?hr ?_; (case hd => rfl); (case hg => rfl); (case hr => first | (go_simp; done) | (go_simp; rfl)); intro gb161 hg w4 hbox hb; have n0_ := zs HB hb; have n1_ := Aside0.mk (hbox); have n2_ := zz HB hg; have n3_ := zz HB hg; clear HB; have HB := n0_; have BK161 := n1_; have GW161 := n2_; have GE161 := n3_; clear n0_ n1_ n2_ n3_; clear hb hbox hg) | ((with_reducible refine gate_dst (N := 3) rfl ?_); refine box_event ?hg (N := 3) ?hd (cs := #[.slice A1_0 l1_0.length c1_0]) (t := 31) ?hr ?_; (case hd => rfl); (case hg => rfl); (case hr => first | (go_simp; done) | (go_simp; rfl)); intro gb162 hg w5 hbox hb; have n0_ := zb BK161 hb; have n1_ := zs HB hb; have n2_ := Aside0.mk (hbox); have n3_ := zz HB hg; have n4_ := zz HB hg; have n5_ := zn BK161 hg; have n6_ := zm BK161 hg; clear BK161; clear HB; have BK161 := n0_; have HB := n1_; have BK162 := n2_; have GW162 := n3_; have GE162 := n4_; have NB161_162 := n5_; have NB162_161 := n6_; clear n0_ n1_ n2_ n3_ n4_ n5_ n6_; clear hb hbox hg; have hnb6 := NB161_162.out; have hnc6 := NB162_161.out; have hcz7_0 := zc1 BK161; have hfz7_0 := zf1 BK161; have hcz8_0 := zc1 BK162; have hfz8_0 := zf1 BK162)))
    go_loopg [19] k (fun kq v19 w' => ∃ (x19_1 : Int), v19 = .int .i64 x19_1 ∧ Aside0 (slipwaylaw02_alike.l0 kq l0_0 (l0_0.length : Int) x19_1 l1_0 = some r) ∧ Aside0 (kq ≤ k) ∧ Aside0 (w'.heap[gb161]? = some (.cells #[(.slice A0_0 l0_0.length c0_0)] 31 (0, 0))) ∧ Aside0 (w'.heap[gb162]? = some (.cells #[(.slice A1_0 l1_0.length c1_0)] 31 (0, 0))) ∧ Aside0 (Below w.heap.size w w'))
    case atStart => exact ⟨(0), (by first | rfl | (simp; done) | (simp [*]; done)), H', ⟨Nat.le_refl _⟩, ⟨by (with_reducible repeat (first | refine blk_drewN ?_ _ | refine blk_drew ?_ | refine blk_alloc ?_ _)); exact BK161.out⟩, ⟨by (with_reducible repeat (first | refine blk_drewN ?_ _ | refine blk_drew ?_ | refine blk_alloc ?_ _)); exact BK162.out⟩, ⟨zB HB⟩⟩
    case round =>
      clear H'
      try clear c1
      try clear p2
      try clear c3
      try clear c3b0
      try clear c3b1
      try clear c3b2
      try clear c6
      try clear hcz7_0
      try clear hcz8_0
      try clear hfz7_0
      try clear hfz8_0
      obtain ⟨x19_1, rfl, HA, HK1, BK161, BK162, HB⟩ := hrel
      cases gk with
      | zero => exact absurd HA.out (by simp [slipwaylaw02_alike.l0])
      | succ k1 =>
        have H := HA.out
        clear HA
        simp only [slipwaylaw02_alike.l0] at H
        by_cases c9 : x19_1 < (l0_0.length : Int)
        · rw [if_pos c9] at H
          have c9b0 : decide (x19_1 < (l0_0.length : Int)) = true := decide_eq_true c9
          clear c9
          by_cases c10 : 0 ≤ x19_1
          · rw [if_pos c10] at H
            have c10b0 : decide (0 ≤ x19_1) = true := decide_eq_true c10
            clear c10
            by_cases c11 : x19_1 < (l0_0.length : Int)
            · rw [if_pos c11] at H
              have c11b0 : decide (x19_1 < (l0_0.length : Int)) = true := decide_eq_true c11
              clear c11
              by_cases c12 : x19_1 < (l1_0.length : Int)
              · rw [if_pos c12] at H
                have c12b0 : decide (x19_1 < (l1_0.length : Int)) = true := decide_eq_true c12
                clear c12
                by_cases c13 : ((rd_L4 l0_0 x19_1).length : Int) = ((rd_L4 l1_0 x19_1).length : Int)
                · rw [if_pos c13] at H
                  have c13b0 : (((rd_L4 l0_0 x19_1).length : Int) == ((rd_L4 l1_0 x19_1).length : Int)) = true := beq_iff_eq.mpr c13
                  have c13b1 : (((rd_L4 l0_0 x19_1).length : Int) != ((rd_L4 l1_0 x19_1).length : Int)) = false := bne_eq_false_iff_eq.mpr c13
                  have c13b2 : ((rd_L4 l0_0 x19_1).length == (rd_L4 l1_0 x19_1).length) = true := by first | simpa using c13 | (simp at c13 ⊢; omega)
                  clear c13
                  have H' := Aside0.mk H
                  clear H
                  have p163 : 0 ≤ (x19_1 : Int) := of_decide_eq_true (by first | (with_reducible assumption) | assumption)
                  have q163 : x19_1 < (l0_0.length : Int) := of_decide_eq_true (by first | (with_reducible assumption) | assumption)
                  obtain ⟨ad163, A163_0, c163_0, e163, hx163_0, hl163_0, hi163_0⟩ := at_L4 HR0_0.out x19_1 p163 q163
                  cases e163
                  replace hx163_0 := (HB.out.cell (World.block_lt_of_cell? w _ hx163_0)).trans hx163_0
                  have HR163_0 := Aside0.mk hi163_0
                  have HC163_0 := Aside0.mk hl163_0
                  clear hi163_0 hl163_0
                  replace p163 := eq_true p163
                  replace q163 := eq_true q163
                  have hnb14 := NB162_161.out
                  have hnc14 := NB161_162.out
                  have hcz15_0 := zc1 BK162
                  have hfz15_0 := zf1 BK162
                  have p164 : 0 ≤ (x19_1 : Int) := of_decide_eq_true (by first | (with_reducible assumption) | assumption)
                  have q164 : x19_1 < (l1_0.length : Int) := of_decide_eq_true (by first | (with_reducible assumption) | assumption)
                  obtain ⟨ad164, A164_0, c164_0, e164, hx164_0, hl164_0, hi164_0⟩ := at_L4 HR1_0.out x19_1 p164 q164
                  cases e164
                  replace hx164_0 := (HB.out.cell (World.block_lt_of_cell? w _ hx164_0)).trans hx164_0
                  have HR164_0 := Aside0.mk hi164_0
                  have HC164_0 := Aside0.mk hl164_0
                  clear hi164_0 hl164_0
                  replace p164 := eq_true p164
                  replace q164 := eq_true q164
                  go_wp2
                  repeat (go_quiet (fail); try go_wp2)
                  go_loopg [35] k1 (fun kq v35 w' => ∃ (x35_2 : Int), v35 = .int .i64 x35_2 ∧ Aside0 (slipwaylaw02_alike.l1 kq x19_1 l0_0 (l0_0.length : Int) x19_1 (rd_L4 l0_0 x19_1) ((rd_L4 l0_0 x19_1).length : Int) x35_2 l1_0 = some r) ∧ Aside0 (kq ≤ k1) ∧ Aside0 (w'.heap[gb161]? = some (.cells #[(.slice (some ad163) l0_0.length c0_0)] 31 (0, 0))) ∧ Aside0 (w'.heap[gb162]? = some (.cells #[(.slice (some ad164) l1_0.length c1_0)] 31 (0, 0))) ∧ Aside0 (Below w.heap.size w w'))
                  case atStart => exact ⟨(0), (by first | rfl | (simp; done) | (simp [*]; done)), H', ⟨Nat.le_refl _⟩, ⟨by (with_reducible repeat (first | refine blk_drewN ?_ _ | refine blk_drew ?_ | refine blk_alloc ?_ _)); exact BK161.out⟩, ⟨by (with_reducible repeat (first | refine blk_drewN ?_ _ | refine blk_drew ?_ | refine blk_alloc ?_ _)); exact BK162.out⟩, ⟨zB HB⟩⟩
                  case round =>
                    clear H'
                    try clear c1
                    try clear p1
                    try clear q1
                    try clear hx1
                    try clear p2
                    try clear c3
                    try clear c3b0
                    try clear c3b1
                    try clear c3b2
                    try clear c6
                    try clear c9
                    try clear c9b0
                    try clear c10
                    try clear c10b0
                    try clear c11
                    try clear c11b0
                    try clear c12
                    try clear c12b0
                    try clear c13
                    try clear c13b0
                    try clear c13b1
                    try clear c13b2
                    try clear c14
                    try clear c15
                    try clear hcz15_0
                    try clear hcz7_0
                    try clear hcz8_0
                    try clear hfz15_0
                    try clear hfz7_0
                    try clear hfz8_0
                    try clear hx163_0
                    try clear hx164_0
                    try clear p163
                    try clear p164
                    try clear p2
                    try clear q163
                    try clear q164
                    obtain ⟨x35_2, rfl, HA, HK2, BK161, BK162, HB⟩ := hrel
                    cases gk with
                    | zero => exact absurd HA.out (by simp [slipwaylaw02_alike.l1])
                    | succ k2 =>
                      have H := HA.out
                      clear HA
                      simp only [slipwaylaw02_alike.l1] at H
                      by_cases c16 : x35_2 < ((rd_L4 l0_0 x19_1).length : Int)
                      · rw [if_pos c16] at H
                        have c16b0 : decide (x35_2 < ((rd_L4 l0_0 x19_1).length : Int)) = true := decide_eq_true c16
                        clear c16
                        by_cases c17 : 0 ≤ x35_2
                        · rw [if_pos c17] at H
                          have c17b0 : decide (0 ≤ x35_2) = true := decide_eq_true c17
                          clear c17
                          by_cases c18 : x35_2 < ((rd_L4 l0_0 x19_1).length : Int)
                          · rw [if_pos c18] at H
                            have c18b0 : decide (x35_2 < ((rd_L4 l0_0 x19_1).length : Int)) = true := decide_eq_true c18
                            clear c18
                            by_cases c19 : 0 ≤ x19_1
                            · rw [if_pos c19] at H
                              have c19b0 : decide (0 ≤ x19_1) = true := decide_eq_true c19
                              clear c19
                              by_cases c20 : x19_1 < (l1_0.length : Int)
                              · rw [if_pos c20] at H
                                have c20b0 : decide (x19_1 < (l1_0.length : Int)) = true := decide_eq_true c20
                                clear c20
                                by_cases c21 : x35_2 < ((rd_L4 l1_0 x19_1).length : Int)
                                · rw [if_pos c21] at H
                                  have c21b0 : decide (x35_2 < ((rd_L4 l1_0 x19_1).length : Int)) = true := decide_eq_true c21
                                  clear c21
                                  by_cases c22 : (!(((rd_T53 (rd_L4 l0_0 x19_1) x35_2).f0) == ((rd_T53 (rd_L4 l1_0 x19_1) x35_2).f0)) || ((!(((rd_T53 (rd_L4 l0_0 x19_1) x35_2).f1.f0) == ((rd_T53 (rd_L4 l1_0 x19_1) x35_2).f1.f0)) || (!(((rd_T53 (rd_L4 l0_0 x19_1) x35_2).f1.f1) == ((rd_T53 (rd_L4 l1_0 x19_1) x35_2).f1.f1)) || (!(((rd_T53 (rd_L4 l0_0 x19_1) x35_2).f1.f2) == ((rd_T53 (rd_L4 l1_0 x19_1) x35_2).f1.f2)) || (!((((rd_T53 (rd_L4 l0_0 x19_1) x35_2).f1.f3).toList) == (((rd_T53 (rd_L4 l1_0 x19_1) x35_2).f1.f3).toList)))))))) = true
                                  · rw [if_pos c22] at H
                                    have c22b0 : (!(((rd_T53 (rd_L4 l0_0 x19_1) x35_2).f0) == ((rd_T53 (rd_L4 l1_0 x19_1) x35_2).f0)) || ((!(((rd_T53 (rd_L4 l0_0 x19_1) x35_2).f1.f0) == ((rd_T53 (rd_L4 l1_0 x19_1) x35_2).f1.f0)) || (!(((rd_T53 (rd_L4 l0_0 x19_1) x35_2).f1.f1) == ((rd_T53 (rd_L4 l1_0 x19_1) x35_2).f1.f1)) || (!(((rd_T53 (rd_L4 l0_0 x19_1) x35_2).f1.f2) == ((rd_T53 (rd_L4 l1_0 x19_1) x35_2).f1.f2)) || (!((((rd_T53 (rd_L4 l0_0 x19_1) x35_2).f1.f3).toList) == (((rd_T53 (rd_L4 l1_0 x19_1) x35_2).f1.f3).toList)))))))) = true := c22
                                    clear c22
                                    obtain rfl := Option.some.inj H
                                    have p165 : 0 ≤ (x35_2 : Int) := of_decide_eq_true (by first | (with_reducible assumption) | assumption)
                                    have q165 : x35_2 < ((rd_L4 l0_0 x19_1).length : Int) := of_decide_eq_true (by first | (with_reducible assumption) | assumption)
                                    obtain ⟨ad165, e165, hx165_0, hx165_1, hx165_2, hx165_3, hx165_4⟩ := at_T53 HR163_0.out x35_2 p165 q165
                                    cases e165
                                    replace hx165_0 := (HB.out.cell (World.block_lt_of_cell? w _ hx165_0)).trans hx165_0
                                    replace hx165_1 := (HB.out.cell (World.block_lt_of_cell? w _ hx165_1)).trans hx165_1
                                    replace hx165_2 := (HB.out.cell (World.block_lt_of_cell? w _ hx165_2)).trans hx165_2
                                    replace hx165_3 := (HB.out.cell (World.block_lt_of_cell? w _ hx165_3)).trans hx165_3
                                    replace hx165_4 := (HB.out.cell (World.block_lt_of_cell? w _ hx165_4)).trans hx165_4
                                    replace p165 := eq_true p165
                                    replace q165 := eq_true q165
                                    go_wp2_with (first | ((with_reducible refine gate_dst (N := 8) rfl ?_); refine box_event ?hg (N := 8) ?hd (cs := #[.int .i64 0, .int .i64 0, .int .i64 0, .int .i64 0, .string (⟨#[]⟩ : ByteArray)]) (t := 53) ?hr ?_; (case hd => rfl); (case hg => rfl); (case hr => first | (go_simp; done) | (go_simp; rfl)); intro gb166 hg w23 hbox hb; have n0_ := zb BK161 hb; have n1_ := zb BK162 hb; have n2_ := zs HB hb; have n3_ := Aside0.mk (hbox); have n4_ := zz HB hg; have n5_ := zz HB hg; have n6_ := zn BK161 hg; have n7_ := zm BK161 hg; have n8_ := zn BK162 hg; have n9_ := zm BK162 hg; clear BK161; clear BK162; clear HB; have BK161 := n0_; have BK162 := n1_; have HB := n2_; have BK166 := n3_; have GW166 := n4_; have GE166 := n5_; have NB161_166 := n6_; have NB166_161 := n7_; have NB162_166 := n8_; have NB166_162 := n9_; clear n0_ n1_ n2_ n3_ n4_ n5_ n6_ n7_ n8_ n9_; clear hb hbox hg; have hnb24 := NB166_161.out; have hnc24 := NB161_166.out; have hnb25 := NB166_162.out; have hnc25 := NB162_166.out; obtain ⟨hcz26_0, hcz26_1, hcz26_2, hcz26_3, hcz26_4⟩ := zc5 BK166; obtain ⟨hfz26_0, hfz26_1, hfz26_2, hfz26_3, hfz26_4⟩ := zf5 BK166) | ((with_reducible refine gate_store (t := 53) (p := 8) rfl ?_); (try (rw [drewN_self w23]; generalize hq_ : World.drewN w23 _ = w23; have n0_ := Aside0.mk (blk_at hq_ BK161.out); have n1_ := Aside0.mk (blk_at hq_ BK162.out); have n2_ := Aside0.mk (blk_at hq_ BK166.out); have n3_ := Aside0.mk (below_at hq_ HB.out); clear hq_ BK161 BK162 BK166 HB; have BK161 := n0_; have BK162 := n1_; have BK166 := n2_; have HB := n3_; clear n0_ n1_ n2_ n3_)); refine store_event (t := 53) (p := 8) (v := ?vo_w27) (w1 := (((((w23.setCell ⟨gb166, 0, none⟩ (.int .i64 ((rd_T53 (rd_L4 l0_0 x19_1) x35_2).f0))).setCell ⟨gb166, 1, none⟩ (.int .i64 ((rd_T53 (rd_L4 l0_0 x19_1) x35_2).f1.f0))).setCell ⟨gb166, 2, none⟩ (.int .i64 ((rd_T53 (rd_L4 l0_0 x19_1) x35_2).f1.f1))).setCell ⟨gb166, 3, none⟩ (.int .i64 ((rd_T53 (rd_L4 l0_0 x19_1) x35_2).f1.f2))).setCell ⟨gb166, 4, none⟩ (.string ((rd_T53 (rd_L4 l0_0 x19_1) x35_2).f1.f3)))) ?hg ?ho ?hn ?hr ?_; (case ho => rfl); (case hg => rfl); (case hn => rfl); (case hr => first | (go_simp; done) | (go_simp; rfl)); intro w27 hw; have n0_ := zw BK161 hw; have n1_ := zw BK162 hw; have n2_ : Aside0 (w27.heap[gb166]? = some (.cells #[.int .i64 ((rd_T53 (rd_L4 l0_0 x19_1) x35_2).f0), .int .i64 ((rd_T53 (rd_L4 l0_0 x19_1) x35_2).f1.f0), .int .i64 ((rd_T53 (rd_L4 l0_0 x19_1) x35_2).f1.f1), .int .i64 ((rd_T53 (rd_L4 l0_0 x19_1) x35_2).f1.f2), .string ((rd_T53 (rd_L4 l0_0 x19_1) x35_2).f1.f3)] 53 (0, 0))) := ⟨(by rw [hw]; exact (by refine blk_put (cs := #[.int .i64 ((rd_T53 (rd_L4 l0_0 x19_1) x35_2).f0), .int .i64 ((rd_T53 (rd_L4 l0_0 x19_1) x35_2).f1.f0), .int .i64 ((rd_T53 (rd_L4 l0_0 x19_1) x35_2).f1.f1), .int .i64 ((rd_T53 (rd_L4 l0_0 x19_1) x35_2).f1.f2), .string (⟨#[]⟩ : ByteArray)]) ?_ 4 _ rfl; refine blk_put (cs := #[.int .i64 ((rd_T53 (rd_L4 l0_0 x19_1) x35_2).f0), .int .i64 ((rd_T53 (rd_L4 l0_0 x19_1) x35_2).f1.f0), .int .i64 ((rd_T53 (rd_L4 l0_0 x19_1) x35_2).f1.f1), .int .i64 0, .string (⟨#[]⟩ : ByteArray)]) ?_ 3 _ rfl; refine blk_put (cs := #[.int .i64 ((rd_T53 (rd_L4 l0_0 x19_1) x35_2).f0), .int .i64 ((rd_T53 (rd_L4 l0_0 x19_1) x35_2).f1.f0), .int .i64 0, .int .i64 0, .string (⟨#[]⟩ : ByteArray)]) ?_ 2 _ rfl; refine blk_put (cs := #[.int .i64 ((rd_T53 (rd_L4 l0_0 x19_1) x35_2).f0), .int .i64 0, .int .i64 0, .int .i64 0, .string (⟨#[]⟩ : ByteArray)]) ?_ 1 _ rfl; refine blk_put (cs := #[.int .i64 0, .int .i64 0, .int .i64 0, .int .i64 0, .string (⟨#[]⟩ : ByteArray)]) ?_ 0 _ rfl; (with_reducible repeat (first | refine blk_drewN ?_ _ | refine blk_drew ?_ | refine blk_alloc ?_ _)); exact BK166.out))⟩; have n3_ := zu HB hw; clear hw; clear BK161; clear BK162; clear BK166; clear HB; have BK161 := n0_; have BK162 := n1_; have BK166 := n2_; have HB := n3_; clear n0_ n1_ n2_ n3_; obtain ⟨hcz28_0, hcz28_1, hcz28_2, hcz28_3, hcz28_4⟩ := zc5 BK166; obtain ⟨hfz28_0, hfz28_1, hfz28_2, hfz28_3, hfz28_4⟩ := zf5 BK166; have hnb29 := NB162_161.out; have hnc29 := NB161_162.out; have hcz30_0 := zc1 BK162; have hfz30_0 := zf1 BK162; have p167 : 0 ≤ (x19_1 : Int) := of_decide_eq_true (by first | (with_reducible assumption) | assumption); have q167 : x19_1 < (l1_0.length : Int) := of_decide_eq_true (by first | (with_reducible assumption) | assumption); obtain ⟨ad167, A167_0, c167_0, e167, hx167_0, hl167_0, hi167_0⟩ := at_L4 HR1_0.out x19_1 p167 q167; obtain rfl : ad164 = ad167 := (by injection e167); replace hx167_0 := (HB.out.cell (World.block_lt_of_cell? w _ hx167_0)).trans hx167_0; have HR167_0 := Aside0.mk hi167_0; have HC167_0 := Aside0.mk hl167_0; clear hi167_0 hl167_0; replace p167 := eq_true p167; replace q167 := eq_true q167; have p168 : 0 ≤ (x35_2 : Int) := of_decide_eq_true (by first | (with_reducible assumption) | assumption); have q168 : x35_2 < ((rd_L4 l1_0 x19_1).length : Int) := of_decide_eq_true (by first | (with_reducible assumption) | assumption); obtain ⟨ad168, e168, hx168_0, hx168_1, hx168_2, hx168_3, hx168_4⟩ := at_T53 HR167_0.out x35_2 p168 q168; cases e168; replace hx168_0 := (HB.out.cell (World.block_lt_of_cell? w _ hx168_0)).trans hx168_0; replace hx168_1 := (HB.out.cell (World.block_lt_of_cell? w _ hx168_1)).trans hx168_1; replace hx168_2 := (HB.out.cell (World.block_lt_of_cell? w _ hx168_2)).trans hx168_2; replace hx168_3 := (HB.out.cell (World.block_lt_of_cell? w _ hx168_3)).trans hx168_3; replace hx168_4 := (HB.out.cell (World.block_lt_of_cell? w _ hx168_4)).trans hx168_4; replace p168 := eq_true p168; replace q168 := eq_true q168))
                                    repeat (go_quiet (first | ((with_reducible refine gate_dst (N := 8) rfl ?_); refine box_event ?hg (N := 8) ?hd (cs := #[.int .i64 0, .int .i64 0, .int .i64 0, .int .i64 0, .string (⟨#[]⟩ : ByteArray)]) (t := 53) ?hr ?_; (case hd => rfl); (case hg => rfl); (case hr => first | (go_simp; done) | (go_simp; rfl)); intro gb166 hg w23 hbox hb; have n0_ := zb BK161 hb; have n1_ := zb BK162 hb; have n2_ := zs HB hb; have n3_ := Aside0.mk (hbox); have n4_ := zz HB hg; have n5_ := zz HB hg; have n6_ := zn BK161 hg; have n7_ := zm BK161 hg; have n8_ := zn BK162 hg; have n9_ := zm BK162 hg; clear BK161; clear BK162; clear HB; have BK161 := n0_; have BK162 := n1_; have HB := n2_; have BK166 := n3_; have GW166 := n4_; have GE166 := n5_; have NB161_166 := n6_; have NB166_161 := n7_; have NB162_166 := n8_; have NB166_162 := n9_; clear n0_ n1_ n2_ n3_ n4_ n5_ n6_ n7_ n8_ n9_; clear hb hbox hg; have hnb24 := NB166_161.out; have hnc24 := NB161_166.out; have hnb25 := NB166_162.out; have hnc25 := NB162_166.out; obtain ⟨hcz26_0, hcz26_1, hcz26_2, hcz26_3, hcz26_4⟩ := zc5 BK166; obtain ⟨hfz26_0, hfz26_1, hfz26_2, hfz26_3, hfz26_4⟩ := zf5 BK166) | ((with_reducible refine gate_store (t := 53) (p := 8) rfl ?_); (try (rw [drewN_self w23]; generalize hq_ : World.drewN w23 _ = w23; have n0_ := Aside0.mk (blk_at hq_ BK161.out); have n1_ := Aside0.mk (blk_at hq_ BK162.out); have n2_ := Aside0.mk (blk_at hq_ BK166.out); have n3_ := Aside0.mk (below_at hq_ HB.out); clear hq_ BK161 BK162 BK166 HB; have BK161 := n0_; have BK162 := n1_; have BK166 := n2_; have HB := n3_; clear n0_ n1_ n2_ n3_)); refine store_event (t := 53) (p := 8) (v := ?vo_w27) (w1 := (((((w23.setCell ⟨gb166, 0, none⟩ (.int .i64 ((rd_T53 (rd_L4 l0_0 x19_1) x35_2).f0))).setCell ⟨gb166, 1, none⟩ (.int .i64 ((rd_T53 (rd_L4 l0_0 x19_1) x35_2).f1.f0))).setCell ⟨gb166, 2, none⟩ (.int .i64 ((rd_T53 (rd_L4 l0_0 x19_1) x35_2).f1.f1))).setCell ⟨gb166, 3, none⟩ (.int .i64 ((rd_T53 (rd_L4 l0_0 x19_1) x35_2).f1.f2))).setCell ⟨gb166, 4, none⟩ (.string ((rd_T53 (rd_L4 l0_0 x19_1) x35_2).f1.f3)))) ?hg ?ho ?hn ?hr ?_; (case ho => rfl); (case hg => rfl); (case hn => rfl); (case hr => first | (go_simp; done) | (go_simp; rfl)); intro w27 hw; have n0_ := zw BK161 hw; have n1_ := zw BK162 hw; have n2_ : Aside0 (w27.heap[gb166]? = some (.cells #[.int .i64 ((rd_T53 (rd_L4 l0_0 x19_1) x35_2).f0), .int .i64 ((rd_T53 (rd_L4 l0_0 x19_1) x35_2).f1.f0), .int .i64 ((rd_T53 (rd_L4 l0_0 x19_1) x35_2).f1.f1), .int .i64 ((rd_T53 (rd_L4 l0_0 x19_1) x35_2).f1.f2), .string ((rd_T53 (rd_L4 l0_0 x19_1) x35_2).f1.f3)] 53 (0, 0))) := ⟨(by rw [hw]; exact (by refine blk_put (cs := #[.int .i64 ((rd_T53 (rd_L4 l0_0 x19_1) x35_2).f0), .int .i64 ((rd_T53 (rd_L4 l0_0 x19_1) x35_2).f1.f0), .int .i64 ((rd_T53 (rd_L4 l0_0 x19_1) x35_2).f1.f1), .int .i64 ((rd_T53 (rd_L4 l0_0 x19_1) x35_2).f1.f2), .string (⟨#[]⟩ : ByteArray)]) ?_ 4 _ rfl; refine blk_put (cs := #[.int .i64 ((rd_T53 (rd_L4 l0_0 x19_1) x35_2).f0), .int .i64 ((rd_T53 (rd_L4 l0_0 x19_1) x35_2).f1.f0), .int .i64 ((rd_T53 (rd_L4 l0_0 x19_1) x35_2).f1.f1), .int .i64 0, .string (⟨#[]⟩ : ByteArray)]) ?_ 3 _ rfl; refine blk_put (cs := #[.int .i64 ((rd_T53 (rd_L4 l0_0 x19_1) x35_2).f0), .int .i64 ((rd_T53 (rd_L4 l0_0 x19_1) x35_2).f1.f0), .int .i64 0, .int .i64 0, .string (⟨#[]⟩ : ByteArray)]) ?_ 2 _ rfl; refine blk_put (cs := #[.int .i64 ((rd_T53 (rd_L4 l0_0 x19_1) x35_2).f0), .int .i64 0, .int .i64 0, .int .i64 0, .string (⟨#[]⟩ : ByteArray)]) ?_ 1 _ rfl; refine blk_put (cs := #[.int .i64 0, .int .i64 0, .int .i64 0, .int .i64 0, .string (⟨#[]⟩ : ByteArray)]) ?_ 0 _ rfl; (with_reducible repeat (first | refine blk_drewN ?_ _ | refine blk_drew ?_ | refine blk_alloc ?_ _)); exact BK166.out))⟩; have n3_ := zu HB hw; clear hw; clear BK161; clear BK162; clear BK166; clear HB; have BK161 := n0_; have BK162 := n1_; have BK166 := n2_; have HB := n3_; clear n0_ n1_ n2_ n3_; obtain ⟨hcz28_0, hcz28_1, hcz28_2, hcz28_3, hcz28_4⟩ := zc5 BK166; obtain ⟨hfz28_0, hfz28_1, hfz28_2, hfz28_3, hfz28_4⟩ := zf5 BK166; have hnb29 := NB162_161.out; have hnc29 := NB161_162.out; have hcz30_0 := zc1 BK162; have hfz30_0 := zf1 BK162; have p167 : 0 ≤ (x19_1 : Int) := of_decide_eq_true (by first | (with_reducible assumption) | assumption); have q167 : x19_1 < (l1_0.length : Int) := of_decide_eq_true (by first | (with_reducible assumption) | assumption); obtain ⟨ad167, A167_0, c167_0, e167, hx167_0, hl167_0, hi167_0⟩ := at_L4 HR1_0.out x19_1 p167 q167; obtain rfl : ad164 = ad167 := (by injection e167); replace hx167_0 := (HB.out.cell (World.block_lt_of_cell? w _ hx167_0)).trans hx167_0; have HR167_0 := Aside0.mk hi167_0; have HC167_0 := Aside0.mk hl167_0; clear hi167_0 hl167_0; replace p167 := eq_true p167; replace q167 := eq_true q167; have p168 : 0 ≤ (x35_2 : Int) := of_decide_eq_true (by first | (with_reducible assumption) | assumption); have q168 : x35_2 < ((rd_L4 l1_0 x19_1).length : Int) := of_decide_eq_true (by first | (with_reducible assumption) | assumption); obtain ⟨ad168, e168, hx168_0, hx168_1, hx168_2, hx168_3, hx168_4⟩ := at_T53 HR167_0.out x35_2 p168 q168; cases e168; replace hx168_0 := (HB.out.cell (World.block_lt_of_cell? w _ hx168_0)).trans hx168_0; replace hx168_1 := (HB.out.cell (World.block_lt_of_cell? w _ hx168_1)).trans hx168_1; replace hx168_2 := (HB.out.cell (World.block_lt_of_cell? w _ hx168_2)).trans hx168_2; replace hx168_3 := (HB.out.cell (World.block_lt_of_cell? w _ hx168_3)).trans hx168_3; replace hx168_4 := (HB.out.cell (World.block_lt_of_cell? w _ hx168_4)).trans hx168_4; replace p168 := eq_true p168; replace q168 := eq_true q168)); try go_wp2_with (first | ((with_reducible refine gate_dst (N := 8) rfl ?_); refine box_event ?hg (N := 8) ?hd (cs := #[.int .i64 0, .int .i64 0, .int .i64 0, .int .i64 0, .string (⟨#[]⟩ : ByteArray)]) (t := 53) ?hr ?_; (case hd => rfl); (case hg => rfl); (case hr => first | (go_simp; done) | (go_simp; rfl)); intro gb166 hg w23 hbox hb; have n0_ := zb BK161 hb; have n1_ := zb BK162 hb; have n2_ := zs HB hb; have n3_ := Aside0.mk (hbox); have n4_ := zz HB hg; have n5_ := zz HB hg; have n6_ := zn BK161 hg; have n7_ := zm BK161 hg; have n8_ := zn BK162 hg; have n9_ := zm BK162 hg; clear BK161; clear BK162; clear HB; have BK161 := n0_; have BK162 := n1_; have HB := n2_; have BK166 := n3_; have GW166 := n4_; have GE166 := n5_; have NB161_166 := n6_; have NB166_161 := n7_; have NB162_166 := n8_; have NB166_162 := n9_; clear n0_ n1_ n2_ n3_ n4_ n5_ n6_ n7_ n8_ n9_; clear hb hbox hg; have hnb24 := NB166_161.out; have hnc24 := NB161_166.out; have hnb25 := NB166_162.out; have hnc25 := NB162_166.out; obtain ⟨hcz26_0, hcz26_1, hcz26_2, hcz26_3, hcz26_4⟩ := zc5 BK166; obtain ⟨hfz26_0, hfz26_1, hfz26_2, hfz26_3, hfz26_4⟩ := zf5 BK166) | ((with_reducible refine gate_store (t := 53) (p := 8) rfl ?_); (try (rw [drewN_self w23]; generalize hq_ : World.drewN w23 _ = w23; have n0_ := Aside0.mk (blk_at hq_ BK161.out); have n1_ := Aside0.mk (blk_at hq_ BK162.out); have n2_ := Aside0.mk (blk_at hq_ BK166.out); have n3_ := Aside0.mk (below_at hq_ HB.out); clear hq_ BK161 BK162 BK166 HB; have BK161 := n0_; have BK162 := n1_; have BK166 := n2_; have HB := n3_; clear n0_ n1_ n2_ n3_)); refine store_event (t := 53) (p := 8) (v := ?vo_w27) (w1 := (((((w23.setCell ⟨gb166, 0, none⟩ (.int .i64 ((rd_T53 (rd_L4 l0_0 x19_1) x35_2).f0))).setCell ⟨gb166, 1, none⟩ (.int .i64 ((rd_T53 (rd_L4 l0_0 x19_1) x35_2).f1.f0))).setCell ⟨gb166, 2, none⟩ (.int .i64 ((rd_T53 (rd_L4 l0_0 x19_1) x35_2).f1.f1))).setCell ⟨gb166, 3, none⟩ (.int .i64 ((rd_T53 (rd_L4 l0_0 x19_1) x35_2).f1.f2))).setCell ⟨gb166, 4, none⟩ (.string ((rd_T53 (rd_L4 l0_0 x19_1) x35_2).f1.f3)))) ?hg ?ho ?hn ?hr ?_; (case ho => rfl); (case hg => rfl); (case hn => rfl); (case hr => first | (go_simp; done) | (go_simp; rfl)); intro w27 hw; have n0_ := zw BK161 hw; have n1_ := zw BK162 hw; have n2_ : Aside0 (w27.heap[gb166]? = some (.cells #[.int .i64 ((rd_T53 (rd_L4 l0_0 x19_1) x35_2).f0), .int .i64 ((rd_T53 (rd_L4 l0_0 x19_1) x35_2).f1.f0), .int .i64 ((rd_T53 (rd_L4 l0_0 x19_1) x35_2).f1.f1), .int .i64 ((rd_T53 (rd_L4 l0_0 x19_1) x35_2).f1.f2), .string ((rd_T53 (rd_L4 l0_0 x19_1) x35_2).f1.f3)] 53 (0, 0))) := ⟨(by rw [hw]; exact (by refine blk_put (cs := #[.int .i64 ((rd_T53 (rd_L4 l0_0 x19_1) x35_2).f0), .int .i64 ((rd_T53 (rd_L4 l0_0 x19_1) x35_2).f1.f0), .int .i64 ((rd_T53 (rd_L4 l0_0 x19_1) x35_2).f1.f1), .int .i64 ((rd_T53 (rd_L4 l0_0 x19_1) x35_2).f1.f2), .string (⟨#[]⟩ : ByteArray)]) ?_ 4 _ rfl; refine blk_put (cs := #[.int .i64 ((rd_T53 (rd_L4 l0_0 x19_1) x35_2).f0), .int .i64 ((rd_T53 (rd_L4 l0_0 x19_1) x35_2).f1.f0), .int .i64 ((rd_T53 (rd_L4 l0_0 x19_1) x35_2).f1.f1), .int .i64 0, .string (⟨#[]⟩ : ByteArray)]) ?_ 3 _ rfl; refine blk_put (cs := #[.int .i64 ((rd_T53 (rd_L4 l0_0 x19_1) x35_2).f0), .int .i64 ((rd_T53 (rd_L4 l0_0 x19_1) x35_2).f1.f0), .int .i64 0, .int .i64 0, .string (⟨#[]⟩ : ByteArray)]) ?_ 2 _ rfl; refine blk_put (cs := #[.int .i64 ((rd_T53 (rd_L4 l0_0 x19_1) x35_2).f0), .int .i64 0, .int .i64 0, .int .i64 0, .string (⟨#[]⟩ : ByteArray)]) ?_ 1 _ rfl; refine blk_put (cs := #[.int .i64 0, .int .i64 0, .int .i64 0, .int .i64 0, .string (⟨#[]⟩ : ByteArray)]) ?_ 0 _ rfl; (with_reducible repeat (first | refine blk_drewN ?_ _ | refine blk_drew ?_ | refine blk_alloc ?_ _)); exact BK166.out))⟩; have n3_ := zu HB hw; clear hw; clear BK161; clear BK162; clear BK166; clear HB; have BK161 := n0_; have BK162 := n1_; have BK166 := n2_; have HB := n3_; clear n0_ n1_ n2_ n3_; obtain ⟨hcz28_0, hcz28_1, hcz28_2, hcz28_3, hcz28_4⟩ := zc5 BK166; obtain ⟨hfz28_0, hfz28_1, hfz28_2, hfz28_3, hfz28_4⟩ := zf5 BK166; have hnb29 := NB162_161.out; have hnc29 := NB161_162.out; have hcz30_0 := zc1 BK162; have hfz30_0 := zf1 BK162; have p167 : 0 ≤ (x19_1 : Int) := of_decide_eq_true (by first | (with_reducible assumption) | assumption); have q167 : x19_1 < (l1_0.length : Int) := of_decide_eq_true (by first | (with_reducible assumption) | assumption); obtain ⟨ad167, A167_0, c167_0, e167, hx167_0, hl167_0, hi167_0⟩ := at_L4 HR1_0.out x19_1 p167 q167; obtain rfl : ad164 = ad167 := (by injection e167); replace hx167_0 := (HB.out.cell (World.block_lt_of_cell? w _ hx167_0)).trans hx167_0; have HR167_0 := Aside0.mk hi167_0; have HC167_0 := Aside0.mk hl167_0; clear hi167_0 hl167_0; replace p167 := eq_true p167; replace q167 := eq_true q167; have p168 : 0 ≤ (x35_2 : Int) := of_decide_eq_true (by first | (with_reducible assumption) | assumption); have q168 : x35_2 < ((rd_L4 l1_0 x19_1).length : Int) := of_decide_eq_true (by first | (with_reducible assumption) | assumption); obtain ⟨ad168, e168, hx168_0, hx168_1, hx168_2, hx168_3, hx168_4⟩ := at_T53 HR167_0.out x35_2 p168 q168; cases e168; replace hx168_0 := (HB.out.cell (World.block_lt_of_cell? w _ hx168_0)).trans hx168_0; replace hx168_1 := (HB.out.cell (World.block_lt_of_cell? w _ hx168_1)).trans hx168_1; replace hx168_2 := (HB.out.cell (World.block_lt_of_cell? w _ hx168_2)).trans hx168_2; replace hx168_3 := (HB.out.cell (World.block_lt_of_cell? w _ hx168_3)).trans hx168_3; replace hx168_4 := (HB.out.cell (World.block_lt_of_cell? w _ hx168_4)).trans hx168_4; replace p168 := eq_true p168; replace q168 := eq_true q168)))
                                    go_ret
                                    exact ⟨by first | rfl | (simp [errW_none, errW_some] <;> rfl) | (simp [*, errW_none, errW_some] <;> rfl), zB HB⟩
                                  · rw [if_neg c22] at H
                                    have c22b0 : (!(((rd_T53 (rd_L4 l0_0 x19_1) x35_2).f0) == ((rd_T53 (rd_L4 l1_0 x19_1) x35_2).f0)) || ((!(((rd_T53 (rd_L4 l0_0 x19_1) x35_2).f1.f0) == ((rd_T53 (rd_L4 l1_0 x19_1) x35_2).f1.f0)) || (!(((rd_T53 (rd_L4 l0_0 x19_1) x35_2).f1.f1) == ((rd_T53 (rd_L4 l1_0 x19_1) x35_2).f1.f1)) || (!(((rd_T53 (rd_L4 l0_0 x19_1) x35_2).f1.f2) == ((rd_T53 (rd_L4 l1_0 x19_1) x35_2).f1.f2)) || (!((((rd_T53 (rd_L4 l0_0 x19_1) x35_2).f1.f3).toList) == (((rd_T53 (rd_L4 l1_0 x19_1) x35_2).f1.f3).toList)))))))) = false := by simpa using c22
                                    clear c22
                                    have H' := Aside0.mk H
                                    clear H
                                    have p165 : 0 ≤ (x35_2 : Int) := of_decide_eq_true (by first | (with_reducible assumption) | assumption)
                                    have q165 : x35_2 < ((rd_L4 l0_0 x19_1).length : Int) := of_decide_eq_true (by first | (with_reducible assumption) | assumption)
                                    obtain ⟨ad165, e165, hx165_0, hx165_1, hx165_2, hx165_3, hx165_4⟩ := at_T53 HR163_0.out x35_2 p165 q165
                                    cases e165
                                    replace hx165_0 := (HB.out.cell (World.block_lt_of_cell? w _ hx165_0)).trans hx165_0
                                    replace hx165_1 := (HB.out.cell (World.block_lt_of_cell? w _ hx165_1)).trans hx165_1
                                    replace hx165_2 := (HB.out.cell (World.block_lt_of_cell? w _ hx165_2)).trans hx165_2
                                    replace hx165_3 := (HB.out.cell (World.block_lt_of_cell? w _ hx165_3)).trans hx165_3
                                    replace hx165_4 := (HB.out.cell (World.block_lt_of_cell? w _ hx165_4)).trans hx165_4
                                    replace p165 := eq_true p165
                                    replace q165 := eq_true q165
                                    go_wp2_with (first | ((with_reducible refine gate_dst (N := 8) rfl ?_); refine box_event ?hg (N := 8) ?hd (cs := #[.int .i64 0, .int .i64 0, .int .i64 0, .int .i64 0, .string (⟨#[]⟩ : ByteArray)]) (t := 53) ?hr ?_; (case hd => rfl); (case hg => rfl); (case hr => first | (go_simp; done) | (go_simp; rfl)); intro gb166 hg w31 hbox hb; have n0_ := zb BK161 hb; have n1_ := zb BK162 hb; have n2_ := zs HB hb; have n3_ := Aside0.mk (hbox); have n4_ := zz HB hg; have n5_ := zz HB hg; have n6_ := zn BK161 hg; have n7_ := zm BK161 hg; have n8_ := zn BK162 hg; have n9_ := zm BK162 hg; clear BK161; clear BK162; clear HB; have BK161 := n0_; have BK162 := n1_; have HB := n2_; have BK166 := n3_; have GW166 := n4_; have GE166 := n5_; have NB161_166 := n6_; have NB166_161 := n7_; have NB162_166 := n8_; have NB166_162 := n9_; clear n0_ n1_ n2_ n3_ n4_ n5_ n6_ n7_ n8_ n9_; clear hb hbox hg; have hnb32 := NB166_161.out; have hnc32 := NB161_166.out; have hnb33 := NB166_162.out; have hnc33 := NB162_166.out; obtain ⟨hcz34_0, hcz34_1, hcz34_2, hcz34_3, hcz34_4⟩ := zc5 BK166; obtain ⟨hfz34_0, hfz34_1, hfz34_2, hfz34_3, hfz34_4⟩ := zf5 BK166) | ((with_reducible refine gate_store (t := 53) (p := 8) rfl ?_); (try (rw [drewN_self w31]; generalize hq_ : World.drewN w31 _ = w31; have n0_ := Aside0.mk (blk_at hq_ BK161.out); have n1_ := Aside0.mk (blk_at hq_ BK162.out); have n2_ := Aside0.mk (blk_at hq_ BK166.out); have n3_ := Aside0.mk (below_at hq_ HB.out); clear hq_ BK161 BK162 BK166 HB; have BK161 := n0_; have BK162 := n1_; have BK166 := n2_; have HB := n3_; clear n0_ n1_ n2_ n3_)); refine store_event (t := 53) (p := 8) (v := ?vo_w35) (w1 := (((((w31.setCell ⟨gb166, 0, none⟩ (.int .i64 ((rd_T53 (rd_L4 l0_0 x19_1) x35_2).f0))).setCell ⟨gb166, 1, none⟩ (.int .i64 ((rd_T53 (rd_L4 l0_0 x19_1) x35_2).f1.f0))).setCell ⟨gb166, 2, none⟩ (.int .i64 ((rd_T53 (rd_L4 l0_0 x19_1) x35_2).f1.f1))).setCell ⟨gb166, 3, none⟩ (.int .i64 ((rd_T53 (rd_L4 l0_0 x19_1) x35_2).f1.f2))).setCell ⟨gb166, 4, none⟩ (.string ((rd_T53 (rd_L4 l0_0 x19_1) x35_2).f1.f3)))) ?hg ?ho ?hn ?hr ?_; (case ho => rfl); (case hg => rfl); (case hn => rfl); (case hr => first | (go_simp; done) | (go_simp; rfl)); intro w35 hw; have n0_ := zw BK161 hw; have n1_ := zw BK162 hw; have n2_ : Aside0 (w35.heap[gb166]? = some (.cells #[.int .i64 ((rd_T53 (rd_L4 l0_0 x19_1) x35_2).f0), .int .i64 ((rd_T53 (rd_L4 l0_0 x19_1) x35_2).f1.f0), .int .i64 ((rd_T53 (rd_L4 l0_0 x19_1) x35_2).f1.f1), .int .i64 ((rd_T53 (rd_L4 l0_0 x19_1) x35_2).f1.f2), .string ((rd_T53 (rd_L4 l0_0 x19_1) x35_2).f1.f3)] 53 (0, 0))) := ⟨(by rw [hw]; exact (by refine blk_put (cs := #[.int .i64 ((rd_T53 (rd_L4 l0_0 x19_1) x35_2).f0), .int .i64 ((rd_T53 (rd_L4 l0_0 x19_1) x35_2).f1.f0), .int .i64 ((rd_T53 (rd_L4 l0_0 x19_1) x35_2).f1.f1), .int .i64 ((rd_T53 (rd_L4 l0_0 x19_1) x35_2).f1.f2), .string (⟨#[]⟩ : ByteArray)]) ?_ 4 _ rfl; refine blk_put (cs := #[.int .i64 ((rd_T53 (rd_L4 l0_0 x19_1) x35_2).f0), .int .i64 ((rd_T53 (rd_L4 l0_0 x19_1) x35_2).f1.f0), .int .i64 ((rd_T53 (rd_L4 l0_0 x19_1) x35_2).f1.f1), .int .i64 0, .string (⟨#[]⟩ : ByteArray)]) ?_ 3 _ rfl; refine blk_put (cs := #[.int .i64 ((rd_T53 (rd_L4 l0_0 x19_1) x35_2).f0), .int .i64 ((rd_T53 (rd_L4 l0_0 x19_1) x35_2).f1.f0), .int .i64 0, .int .i64 0, .string (⟨#[]⟩ : ByteArray)]) ?_ 2 _ rfl; refine blk_put (cs := #[.int .i64 ((rd_T53 (rd_L4 l0_0 x19_1) x35_2).f0), .int .i64 0, .int .i64 0, .int .i64 0, .string (⟨#[]⟩ : ByteArray)]) ?_ 1 _ rfl; refine blk_put (cs := #[.int .i64 0, .int .i64 0, .int .i64 0, .int .i64 0, .string (⟨#[]⟩ : ByteArray)]) ?_ 0 _ rfl; (with_reducible repeat (first | refine blk_drewN ?_ _ | refine blk_drew ?_ | refine blk_alloc ?_ _)); exact BK166.out))⟩; have n3_ := zu HB hw; clear hw; clear BK161; clear BK162; clear BK166; clear HB; have BK161 := n0_; have BK162 := n1_; have BK166 := n2_; have HB := n3_; clear n0_ n1_ n2_ n3_; obtain ⟨hcz36_0, hcz36_1, hcz36_2, hcz36_3, hcz36_4⟩ := zc5 BK166; obtain ⟨hfz36_0, hfz36_1, hfz36_2, hfz36_3, hfz36_4⟩ := zf5 BK166; have hnb37 := NB162_161.out; have hnc37 := NB161_162.out; have hcz38_0 := zc1 BK162; have hfz38_0 := zf1 BK162; have p167 : 0 ≤ (x19_1 : Int) := of_decide_eq_true (by first | (with_reducible assumption) | assumption); have q167 : x19_1 < (l1_0.length : Int) := of_decide_eq_true (by first | (with_reducible assumption) | assumption); obtain ⟨ad167, A167_0, c167_0, e167, hx167_0, hl167_0, hi167_0⟩ := at_L4 HR1_0.out x19_1 p167 q167; obtain rfl : ad164 = ad167 := (by injection e167); replace hx167_0 := (HB.out.cell (World.block_lt_of_cell? w _ hx167_0)).trans hx167_0; have HR167_0 := Aside0.mk hi167_0; have HC167_0 := Aside0.mk hl167_0; clear hi167_0 hl167_0; replace p167 := eq_true p167; replace q167 := eq_true q167; have p168 : 0 ≤ (x35_2 : Int) := of_decide_eq_true (by first | (with_reducible assumption) | assumption); have q168 : x35_2 < ((rd_L4 l1_0 x19_1).length : Int) := of_decide_eq_true (by first | (with_reducible assumption) | assumption); obtain ⟨ad168, e168, hx168_0, hx168_1, hx168_2, hx168_3, hx168_4⟩ := at_T53 HR167_0.out x35_2 p168 q168; cases e168; replace hx168_0 := (HB.out.cell (World.block_lt_of_cell? w _ hx168_0)).trans hx168_0; replace hx168_1 := (HB.out.cell (World.block_lt_of_cell? w _ hx168_1)).trans hx168_1; replace hx168_2 := (HB.out.cell (World.block_lt_of_cell? w _ hx168_2)).trans hx168_2; replace hx168_3 := (HB.out.cell (World.block_lt_of_cell? w _ hx168_3)).trans hx168_3; replace hx168_4 := (HB.out.cell (World.block_lt_of_cell? w _ hx168_4)).trans hx168_4; replace p168 := eq_true p168; replace q168 := eq_true q168))
                                    repeat (go_quiet (first | ((with_reducible refine gate_dst (N := 8) rfl ?_); refine box_event ?hg (N := 8) ?hd (cs := #[.int .i64 0, .int .i64 0, .int .i64 0, .int .i64 0, .string (⟨#[]⟩ : ByteArray)]) (t := 53) ?hr ?_; (case hd => rfl); (case hg => rfl); (case hr => first | (go_simp; done) | (go_simp; rfl)); intro gb166 hg w31 hbox hb; have n0_ := zb BK161 hb; have n1_ := zb BK162 hb; have n2_ := zs HB hb; have n3_ := Aside0.mk (hbox); have n4_ := zz HB hg; have n5_ := zz HB hg; have n6_ := zn BK161 hg; have n7_ := zm BK161 hg; have n8_ := zn BK162 hg; have n9_ := zm BK162 hg; clear BK161; clear BK162; clear HB; have BK161 := n0_; have BK162 := n1_; have HB := n2_; have BK166 := n3_; have GW166 := n4_; have GE166 := n5_; have NB161_166 := n6_; have NB166_161 := n7_; have NB162_166 := n8_; have NB166_162 := n9_; clear n0_ n1_ n2_ n3_ n4_ n5_ n6_ n7_ n8_ n9_; clear hb hbox hg; have hnb32 := NB166_161.out; have hnc32 := NB161_166.out; have hnb33 := NB166_162.out; have hnc33 := NB162_166.out; obtain ⟨hcz34_0, hcz34_1, hcz34_2, hcz34_3, hcz34_4⟩ := zc5 BK166; obtain ⟨hfz34_0, hfz34_1, hfz34_2, hfz34_3, hfz34_4⟩ := zf5 BK166) | ((with_reducible refine gate_store (t := 53) (p := 8) rfl ?_); (try (rw [drewN_self w31]; generalize hq_ : World.drewN w31 _ = w31; have n0_ := Aside0.mk (blk_at hq_ BK161.out); have n1_ := Aside0.mk (blk_at hq_ BK162.out); have n2_ := Aside0.mk (blk_at hq_ BK166.out); have n3_ := Aside0.mk (below_at hq_ HB.out); clear hq_ BK161 BK162 BK166 HB; have BK161 := n0_; have BK162 := n1_; have BK166 := n2_; have HB := n3_; clear n0_ n1_ n2_ n3_)); refine store_event (t := 53) (p := 8) (v := ?vo_w35) (w1 := (((((w31.setCell ⟨gb166, 0, none⟩ (.int .i64 ((rd_T53 (rd_L4 l0_0 x19_1) x35_2).f0))).setCell ⟨gb166, 1, none⟩ (.int .i64 ((rd_T53 (rd_L4 l0_0 x19_1) x35_2).f1.f0))).setCell ⟨gb166, 2, none⟩ (.int .i64 ((rd_T53 (rd_L4 l0_0 x19_1) x35_2).f1.f1))).setCell ⟨gb166, 3, none⟩ (.int .i64 ((rd_T53 (rd_L4 l0_0 x19_1) x35_2).f1.f2))).setCell ⟨gb166, 4, none⟩ (.string ((rd_T53 (rd_L4 l0_0 x19_1) x35_2).f1.f3)))) ?hg ?ho ?hn ?hr ?_; (case ho => rfl); (case hg => rfl); (case hn => rfl); (case hr => first | (go_simp; done) | (go_simp; rfl)); intro w35 hw; have n0_ := zw BK161 hw; have n1_ := zw BK162 hw; have n2_ : Aside0 (w35.heap[gb166]? = some (.cells #[.int .i64 ((rd_T53 (rd_L4 l0_0 x19_1) x35_2).f0), .int .i64 ((rd_T53 (rd_L4 l0_0 x19_1) x35_2).f1.f0), .int .i64 ((rd_T53 (rd_L4 l0_0 x19_1) x35_2).f1.f1), .int .i64 ((rd_T53 (rd_L4 l0_0 x19_1) x35_2).f1.f2), .string ((rd_T53 (rd_L4 l0_0 x19_1) x35_2).f1.f3)] 53 (0, 0))) := ⟨(by rw [hw]; exact (by refine blk_put (cs := #[.int .i64 ((rd_T53 (rd_L4 l0_0 x19_1) x35_2).f0), .int .i64 ((rd_T53 (rd_L4 l0_0 x19_1) x35_2).f1.f0), .int .i64 ((rd_T53 (rd_L4 l0_0 x19_1) x35_2).f1.f1), .int .i64 ((rd_T53 (rd_L4 l0_0 x19_1) x35_2).f1.f2), .string (⟨#[]⟩ : ByteArray)]) ?_ 4 _ rfl; refine blk_put (cs := #[.int .i64 ((rd_T53 (rd_L4 l0_0 x19_1) x35_2).f0), .int .i64 ((rd_T53 (rd_L4 l0_0 x19_1) x35_2).f1.f0), .int .i64 ((rd_T53 (rd_L4 l0_0 x19_1) x35_2).f1.f1), .int .i64 0, .string (⟨#[]⟩ : ByteArray)]) ?_ 3 _ rfl; refine blk_put (cs := #[.int .i64 ((rd_T53 (rd_L4 l0_0 x19_1) x35_2).f0), .int .i64 ((rd_T53 (rd_L4 l0_0 x19_1) x35_2).f1.f0), .int .i64 0, .int .i64 0, .string (⟨#[]⟩ : ByteArray)]) ?_ 2 _ rfl; refine blk_put (cs := #[.int .i64 ((rd_T53 (rd_L4 l0_0 x19_1) x35_2).f0), .int .i64 0, .int .i64 0, .int .i64 0, .string (⟨#[]⟩ : ByteArray)]) ?_ 1 _ rfl; refine blk_put (cs := #[.int .i64 0, .int .i64 0, .int .i64 0, .int .i64 0, .string (⟨#[]⟩ : ByteArray)]) ?_ 0 _ rfl; (with_reducible repeat (first | refine blk_drewN ?_ _ | refine blk_drew ?_ | refine blk_alloc ?_ _)); exact BK166.out))⟩; have n3_ := zu HB hw; clear hw; clear BK161; clear BK162; clear BK166; clear HB; have BK161 := n0_; have BK162 := n1_; have BK166 := n2_; have HB := n3_; clear n0_ n1_ n2_ n3_; obtain ⟨hcz36_0, hcz36_1, hcz36_2, hcz36_3, hcz36_4⟩ := zc5 BK166; obtain ⟨hfz36_0, hfz36_1, hfz36_2, hfz36_3, hfz36_4⟩ := zf5 BK166; have hnb37 := NB162_161.out; have hnc37 := NB161_162.out; have hcz38_0 := zc1 BK162; have hfz38_0 := zf1 BK162; have p167 : 0 ≤ (x19_1 : Int) := of_decide_eq_true (by first | (with_reducible assumption) | assumption); have q167 : x19_1 < (l1_0.length : Int) := of_decide_eq_true (by first | (with_reducible assumption) | assumption); obtain ⟨ad167, A167_0, c167_0, e167, hx167_0, hl167_0, hi167_0⟩ := at_L4 HR1_0.out x19_1 p167 q167; obtain rfl : ad164 = ad167 := (by injection e167); replace hx167_0 := (HB.out.cell (World.block_lt_of_cell? w _ hx167_0)).trans hx167_0; have HR167_0 := Aside0.mk hi167_0; have HC167_0 := Aside0.mk hl167_0; clear hi167_0 hl167_0; replace p167 := eq_true p167; replace q167 := eq_true q167; have p168 : 0 ≤ (x35_2 : Int) := of_decide_eq_true (by first | (with_reducible assumption) | assumption); have q168 : x35_2 < ((rd_L4 l1_0 x19_1).length : Int) := of_decide_eq_true (by first | (with_reducible assumption) | assumption); obtain ⟨ad168, e168, hx168_0, hx168_1, hx168_2, hx168_3, hx168_4⟩ := at_T53 HR167_0.out x35_2 p168 q168; cases e168; replace hx168_0 := (HB.out.cell (World.block_lt_of_cell? w _ hx168_0)).trans hx168_0; replace hx168_1 := (HB.out.cell (World.block_lt_of_cell? w _ hx168_1)).trans hx168_1; replace hx168_2 := (HB.out.cell (World.block_lt_of_cell? w _ hx168_2)).trans hx168_2; replace hx168_3 := (HB.out.cell (World.block_lt_of_cell? w _ hx168_3)).trans hx168_3; replace hx168_4 := (HB.out.cell (World.block_lt_of_cell? w _ hx168_4)).trans hx168_4; replace p168 := eq_true p168; replace q168 := eq_true q168)); try go_wp2_with (first | ((with_reducible refine gate_dst (N := 8) rfl ?_); refine box_event ?hg (N := 8) ?hd (cs := #[.int .i64 0, .int .i64 0, .int .i64 0, .int .i64 0, .string (⟨#[]⟩ : ByteArray)]) (t := 53) ?hr ?_; (case hd => rfl); (case hg => rfl); (case hr => first | (go_simp; done) | (go_simp; rfl)); intro gb166 hg w31 hbox hb; have n0_ := zb BK161 hb; have n1_ := zb BK162 hb; have n2_ := zs HB hb; have n3_ := Aside0.mk (hbox); have n4_ := zz HB hg; have n5_ := zz HB hg; have n6_ := zn BK161 hg; have n7_ := zm BK161 hg; have n8_ := zn BK162 hg; have n9_ := zm BK162 hg; clear BK161; clear BK162; clear HB; have BK161 := n0_; have BK162 := n1_; have HB := n2_; have BK166 := n3_; have GW166 := n4_; have GE166 := n5_; have NB161_166 := n6_; have NB166_161 := n7_; have NB162_166 := n8_; have NB166_162 := n9_; clear n0_ n1_ n2_ n3_ n4_ n5_ n6_ n7_ n8_ n9_; clear hb hbox hg; have hnb32 := NB166_161.out; have hnc32 := NB161_166.out; have hnb33 := NB166_162.out; have hnc33 := NB162_166.out; obtain ⟨hcz34_0, hcz34_1, hcz34_2, hcz34_3, hcz34_4⟩ := zc5 BK166; obtain ⟨hfz34_0, hfz34_1, hfz34_2, hfz34_3, hfz34_4⟩ := zf5 BK166) | ((with_reducible refine gate_store (t := 53) (p := 8) rfl ?_); (try (rw [drewN_self w31]; generalize hq_ : World.drewN w31 _ = w31; have n0_ := Aside0.mk (blk_at hq_ BK161.out); have n1_ := Aside0.mk (blk_at hq_ BK162.out); have n2_ := Aside0.mk (blk_at hq_ BK166.out); have n3_ := Aside0.mk (below_at hq_ HB.out); clear hq_ BK161 BK162 BK166 HB; have BK161 := n0_; have BK162 := n1_; have BK166 := n2_; have HB := n3_; clear n0_ n1_ n2_ n3_)); refine store_event (t := 53) (p := 8) (v := ?vo_w35) (w1 := (((((w31.setCell ⟨gb166, 0, none⟩ (.int .i64 ((rd_T53 (rd_L4 l0_0 x19_1) x35_2).f0))).setCell ⟨gb166, 1, none⟩ (.int .i64 ((rd_T53 (rd_L4 l0_0 x19_1) x35_2).f1.f0))).setCell ⟨gb166, 2, none⟩ (.int .i64 ((rd_T53 (rd_L4 l0_0 x19_1) x35_2).f1.f1))).setCell ⟨gb166, 3, none⟩ (.int .i64 ((rd_T53 (rd_L4 l0_0 x19_1) x35_2).f1.f2))).setCell ⟨gb166, 4, none⟩ (.string ((rd_T53 (rd_L4 l0_0 x19_1) x35_2).f1.f3)))) ?hg ?ho ?hn ?hr ?_; (case ho => rfl); (case hg => rfl); (case hn => rfl); (case hr => first | (go_simp; done) | (go_simp; rfl)); intro w35 hw; have n0_ := zw BK161 hw; have n1_ := zw BK162 hw; have n2_ : Aside0 (w35.heap[gb166]? = some (.cells #[.int .i64 ((rd_T53 (rd_L4 l0_0 x19_1) x35_2).f0), .int .i64 ((rd_T53 (rd_L4 l0_0 x19_1) x35_2).f1.f0), .int .i64 ((rd_T53 (rd_L4 l0_0 x19_1) x35_2).f1.f1), .int .i64 ((rd_T53 (rd_L4 l0_0 x19_1) x35_2).f1.f2), .string ((rd_T53 (rd_L4 l0_0 x19_1) x35_2).f1.f3)] 53 (0, 0))) := ⟨(by rw [hw]; exact (by refine blk_put (cs := #[.int .i64 ((rd_T53 (rd_L4 l0_0 x19_1) x35_2).f0), .int .i64 ((rd_T53 (rd_L4 l0_0 x19_1) x35_2).f1.f0), .int .i64 ((rd_T53 (rd_L4 l0_0 x19_1) x35_2).f1.f1), .int .i64 ((rd_T53 (rd_L4 l0_0 x19_1) x35_2).f1.f2), .string (⟨#[]⟩ : ByteArray)]) ?_ 4 _ rfl; refine blk_put (cs := #[.int .i64 ((rd_T53 (rd_L4 l0_0 x19_1) x35_2).f0), .int .i64 ((rd_T53 (rd_L4 l0_0 x19_1) x35_2).f1.f0), .int .i64 ((rd_T53 (rd_L4 l0_0 x19_1) x35_2).f1.f1), .int .i64 0, .string (⟨#[]⟩ : ByteArray)]) ?_ 3 _ rfl; refine blk_put (cs := #[.int .i64 ((rd_T53 (rd_L4 l0_0 x19_1) x35_2).f0), .int .i64 ((rd_T53 (rd_L4 l0_0 x19_1) x35_2).f1.f0), .int .i64 0, .int .i64 0, .string (⟨#[]⟩ : ByteArray)]) ?_ 2 _ rfl; refine blk_put (cs := #[.int .i64 ((rd_T53 (rd_L4 l0_0 x19_1) x35_2).f0), .int .i64 0, .int .i64 0, .int .i64 0, .string (⟨#[]⟩ : ByteArray)]) ?_ 1 _ rfl; refine blk_put (cs := #[.int .i64 0, .int .i64 0, .int .i64 0, .int .i64 0, .string (⟨#[]⟩ : ByteArray)]) ?_ 0 _ rfl; (with_reducible repeat (first | refine blk_drewN ?_ _ | refine blk_drew ?_ | refine blk_alloc ?_ _)); exact BK166.out))⟩; have n3_ := zu HB hw; clear hw; clear BK161; clear BK162; clear BK166; clear HB; have BK161 := n0_; have BK162 := n1_; have BK166 := n2_; have HB := n3_; clear n0_ n1_ n2_ n3_; obtain ⟨hcz36_0, hcz36_1, hcz36_2, hcz36_3, hcz36_4⟩ := zc5 BK166; obtain ⟨hfz36_0, hfz36_1, hfz36_2, hfz36_3, hfz36_4⟩ := zf5 BK166; have hnb37 := NB162_161.out; have hnc37 := NB161_162.out; have hcz38_0 := zc1 BK162; have hfz38_0 := zf1 BK162; have p167 : 0 ≤ (x19_1 : Int) := of_decide_eq_true (by first | (with_reducible assumption) | assumption); have q167 : x19_1 < (l1_0.length : Int) := of_decide_eq_true (by first | (with_reducible assumption) | assumption); obtain ⟨ad167, A167_0, c167_0, e167, hx167_0, hl167_0, hi167_0⟩ := at_L4 HR1_0.out x19_1 p167 q167; obtain rfl : ad164 = ad167 := (by injection e167); replace hx167_0 := (HB.out.cell (World.block_lt_of_cell? w _ hx167_0)).trans hx167_0; have HR167_0 := Aside0.mk hi167_0; have HC167_0 := Aside0.mk hl167_0; clear hi167_0 hl167_0; replace p167 := eq_true p167; replace q167 := eq_true q167; have p168 : 0 ≤ (x35_2 : Int) := of_decide_eq_true (by first | (with_reducible assumption) | assumption); have q168 : x35_2 < ((rd_L4 l1_0 x19_1).length : Int) := of_decide_eq_true (by first | (with_reducible assumption) | assumption); obtain ⟨ad168, e168, hx168_0, hx168_1, hx168_2, hx168_3, hx168_4⟩ := at_T53 HR167_0.out x35_2 p168 q168; cases e168; replace hx168_0 := (HB.out.cell (World.block_lt_of_cell? w _ hx168_0)).trans hx168_0; replace hx168_1 := (HB.out.cell (World.block_lt_of_cell? w _ hx168_1)).trans hx168_1; replace hx168_2 := (HB.out.cell (World.block_lt_of_cell? w _ hx168_2)).trans hx168_2; replace hx168_3 := (HB.out.cell (World.block_lt_of_cell? w _ hx168_3)).trans hx168_3; replace hx168_4 := (HB.out.cell (World.block_lt_of_cell? w _ hx168_4)).trans hx168_4; replace p168 := eq_true p168; replace q168 := eq_true q168)))
                                    go_roundg k2
                                    case measure => have := HK1.out; have := HK2.out; omega
                                    case rel => exact ⟨(wrap64 (x35_2 + 1)), (by first | rfl | (simp; done) | (simp [*]; done)), H', ⟨by have := HK1.out; have := HK2.out; omega⟩, ⟨by (with_reducible repeat (first | refine blk_drewN ?_ _ | refine blk_drew ?_ | refine blk_alloc ?_ _)); exact BK161.out⟩, ⟨by (with_reducible repeat (first | refine blk_drewN ?_ _ | refine blk_drew ?_ | refine blk_alloc ?_ _)); exact BK162.out⟩, ⟨zB HB⟩⟩
                                · rw [if_neg c21] at H
                                  exact absurd H (by simp)
                              · rw [if_neg c20] at H
                                exact absurd H (by simp)
                            · rw [if_neg c19] at H
                              exact absurd H (by simp)
                          · rw [if_neg c18] at H
                            exact absurd H (by simp)
                        · rw [if_neg c17] at H
                          exact absurd H (by simp)
                      · rw [if_neg c16] at H
                        have c16b0 : decide (x35_2 < ((rd_L4 l0_0 x19_1).length : Int)) = false := decide_eq_false c16
                        clear c16
                        have H' := Aside0.mk H
                        clear H
                        go_wp2
                        repeat (go_quiet (fail); try go_wp2)
                        go_roundg k2
                        case measure => have := HK1.out; have := HK2.out; omega
                        case rel => exact ⟨(wrap64 (x19_1 + 1)), (by first | rfl | (simp; done) | (simp [*]; done)), H', ⟨by have := HK1.out; have := HK2.out; omega⟩, ⟨by (with_reducible repeat (first | refine blk_drewN ?_ _ | refine blk_drew ?_ | refine blk_alloc ?_ _)); exact BK161.out⟩, ⟨by (with_reducible repeat (first | refine blk_drewN ?_ _ | refine blk_drew ?_ | refine blk_alloc ?_ _)); exact BK162.out⟩, ⟨zB HB⟩⟩
                · rw [if_neg c13] at H
                  have c13b0 : (((rd_L4 l0_0 x19_1).length : Int) == ((rd_L4 l1_0 x19_1).length : Int)) = false := beq_eq_false_iff_ne.mpr c13
                  have c13b1 : (((rd_L4 l0_0 x19_1).length : Int) != ((rd_L4 l1_0 x19_1).length : Int)) = true := bne_iff_ne.mpr c13
                  have c13b2 : ((rd_L4 l0_0 x19_1).length == (rd_L4 l1_0 x19_1).length) = false := by first | simpa using c13 | (simp at c13 ⊢; omega)
                  obtain rfl := Option.some.inj H
                  have p163 : 0 ≤ (x19_1 : Int) := of_decide_eq_true (by first | (with_reducible assumption) | assumption)
                  have q163 : x19_1 < (l0_0.length : Int) := of_decide_eq_true (by first | (with_reducible assumption) | assumption)
                  obtain ⟨ad163, A163_0, c163_0, e163, hx163_0, hl163_0, hi163_0⟩ := at_L4 HR0_0.out x19_1 p163 q163
                  cases e163
                  replace hx163_0 := (HB.out.cell (World.block_lt_of_cell? w _ hx163_0)).trans hx163_0
                  have HR163_0 := Aside0.mk hi163_0
                  have HC163_0 := Aside0.mk hl163_0
                  clear hi163_0 hl163_0
                  replace p163 := eq_true p163
                  replace q163 := eq_true q163
                  have hnb39 := NB162_161.out
                  have hnc39 := NB161_162.out
                  have hcz40_0 := zc1 BK162
                  have hfz40_0 := zf1 BK162
                  have p164 : 0 ≤ (x19_1 : Int) := of_decide_eq_true (by first | (with_reducible assumption) | assumption)
                  have q164 : x19_1 < (l1_0.length : Int) := of_decide_eq_true (by first | (with_reducible assumption) | assumption)
                  obtain ⟨ad164, A164_0, c164_0, e164, hx164_0, hl164_0, hi164_0⟩ := at_L4 HR1_0.out x19_1 p164 q164
                  cases e164
                  replace hx164_0 := (HB.out.cell (World.block_lt_of_cell? w _ hx164_0)).trans hx164_0
                  have HR164_0 := Aside0.mk hi164_0
                  have HC164_0 := Aside0.mk hl164_0
                  clear hi164_0 hl164_0
                  replace p164 := eq_true p164
                  replace q164 := eq_true q164
                  go_wp2
                  repeat (go_quiet (fail); try go_wp2)
                  go_ret
                  exact ⟨by first | rfl | (simp [errW_none, errW_some] <;> rfl) | (simp [*, errW_none, errW_some] <;> rfl), zB HB⟩
              · rw [if_neg c12] at H
                exact absurd H (by simp)
            · rw [if_neg c11] at H
              exact absurd H (by simp)
          · rw [if_neg c10] at H
            exact absurd H (by simp)
        · rw [if_neg c9] at H
          have c9b0 : decide (x19_1 < (l0_0.length : Int)) = false := decide_eq_false c9
          clear c9
          obtain rfl := Option.some.inj H
          go_wp2
          repeat (go_quiet (fail); try go_wp2)
          go_ret
          exact ⟨by first | rfl | (simp [errW_none, errW_some] <;> rfl) | (simp [*, errW_none, errW_some] <;> rfl), zB HB⟩
  · rw [if_neg c3] at H
    have c3b0 : ((l0_0.length : Int) == (l1_0.length : Int)) = false := beq_eq_false_iff_ne.mpr c3
    have c3b1 : ((l0_0.length : Int) != (l1_0.length : Int)) = true := bne_iff_ne.mpr c3
    have c3b2 : (l0_0.length == l1_0.length) = false := by first | simpa using c3 | (simp at c3 ⊢; omega)
    obtain rfl := Option.some.inj H
    go_enter Tryz.func15, Tryz.ntmps15
    go_wp2_with (first | ((with_reducible refine gate_dst (N := 2) rfl ?_); refine box_event ?hg (N := 2) ?hd (cs := #[.slice A0_0 l0_0.length c0_0]) (t := 31) ?hr ?_; (case hd => rfl); (case hg => rfl); (case hr => first | (go_simp; done) | (go_simp; rfl)); intro gb161 hg w41 hbox hb; have n0_ := zs HB hb; have n1_ := Aside0.mk (hbox); have n2_ := zz HB hg; have n3_ := zz HB hg; clear HB; have HB := n0_; have BK161 := n1_; have GW161 := n2_; have GE161 := n3_; clear n0_ n1_ n2_ n3_; clear hb hbox hg) | ((with_reducible refine gate_dst (N := 3) rfl ?_); refine box_event ?hg (N := 3) ?hd (cs := #[.slice A1_0 l1_0.length c1_0]) (t := 31) ?hr ?_; (case hd => rfl); (case hg => rfl); (case hr => first | (go_simp; done) | (go_simp; rfl)); intro gb162 hg w42 hbox hb; have n0_ := zb BK161 hb; have n1_ := zs HB hb; have n2_ := Aside0.mk (hbox); have n3_ := zz HB hg; have n4_ := zz HB hg; have n5_ := zn BK161 hg; have n6_ := zm BK161 hg; clear BK161; clear HB; have BK161 := n0_; have HB := n1_; have BK162 := n2_; have GW162 := n3_; have GE162 := n4_; have NB161_162 := n5_; have NB162_161 := n6_; clear n0_ n1_ n2_ n3_ n4_ n5_ n6_; clear hb hbox hg; have hnb43 := NB161_162.out; have hnc43 := NB162_161.out; have hcz44_0 := zc1 BK161; have hfz44_0 := zf1 BK161; have hcz45_0 := zc1 BK162; have hfz45_0 := zf1 BK162))
    repeat (go_quiet (first | ((with_reducible refine gate_dst (N := 2) rfl ?_); refine box_event ?hg (N := 2) ?hd (cs := #[.slice A0_0 l0_0.length c0_0]) (t := 31) ?hr ?_; (case hd => rfl); (case hg => rfl); (case hr => first | (go_simp; done) | (go_simp; rfl)); intro gb161 hg w41 hbox hb; have n0_ := zs HB hb; have n1_ := Aside0.mk (hbox); have n2_ := zz HB hg; have n3_ := zz HB hg; clear HB; have HB := n0_; have BK161 := n1_; have GW161 := n2_; have GE161 := n3_; clear n0_ n1_ n2_ n3_; clear hb hbox hg) | ((with_reducible refine gate_dst (N := 3) rfl ?_); refine box_event ?hg (N := 3) ?hd (cs := #[.slice A1_0 l1_0.length c1_0]) (t := 31) ?hr ?_; (case hd => rfl); (case hg => rfl); (case hr => first | (go_simp; done) | (go_simp; rfl)); intro gb162 hg w42 hbox hb; have n0_ := zb BK161 hb; have n1_ := zs HB hb; have n2_ := Aside0.mk (hbox); have n3_ := zz HB hg; have n4_ := zz HB hg; have n5_ := zn BK161 hg; have n6_ := zm BK161 hg; clear BK161; clear HB; have BK161 := n0_; have HB := n1_; have BK162 := n2_; have GW162 := n3_; have GE162 := n4_; have NB161_162 := n5_; have NB162_161 := n6_; clear n0_ n1_ n2_ n3_ n4_ n5_ n6_; clear hb hbox hg; have hnb43 := NB161_162.out; have hnc43 := NB162_161.out; have hcz44_0 := zc1 BK161; have hfz44_0 := zf1 BK161; have hcz45_0 := zc1 BK162; have hfz45_0 := zf1 BK162)); try go_wp2_with (first | ((with_reducible refine gate_dst (N := 2) rfl ?_); refine box_event ?hg (N := 2) ?hd (cs := #[.slice A0_0 l0_0.length c0_0]) (t := 31) ?hr ?_; (case hd => rfl); (case hg => rfl); (case hr => first | (go_simp; done) | (go_simp; rfl)); intro gb161 hg w41 hbox hb; have n0_ := zs HB hb; have n1_ := Aside0.mk (hbox); have n2_ := zz HB hg; have n3_ := zz HB hg; clear HB; have HB := n0_; have BK161 := n1_; have GW161 := n2_; have GE161 := n3_; clear n0_ n1_ n2_ n3_; clear hb hbox hg) | ((with_reducible refine gate_dst (N := 3) rfl ?_); refine box_event ?hg (N := 3) ?hd (cs := #[.slice A1_0 l1_0.length c1_0]) (t := 31) ?hr ?_; (case hd => rfl); (case hg => rfl); (case hr => first | (go_simp; done) | (go_simp; rfl)); intro gb162 hg w42 hbox hb; have n0_ := zb BK161 hb; have n1_ := zs HB hb; have n2_ := Aside0.mk (hbox); have n3_ := zz HB hg; have n4_ := zz HB hg; have n5_ := zn BK161 hg; have n6_ := zm BK161 hg; clear BK161; clear HB; have BK161 := n0_; have HB := n1_; have BK162 := n2_; have GW162 := n3_; have GE162 := n4_; have NB161_162 := n5_; have NB162_161 := n6_; clear n0_ n1_ n2_ n3_ n4_ n5_ n6_; clear hb hbox hg; have hnb43 := NB161_162.out; have hnc43 := NB162_161.out; have hcz44_0 := zc1 BK161; have hfz44_0 := zf1 BK161; have hcz45_0 := zc1 BK162; have hfz45_0 := zf1 BK162)))
    go_ret
    exact ⟨by first | rfl | (simp [errW_none, errW_some] <;> rfl) | (simp [*, errW_none, errW_some] <;> rfl), zB HB⟩


end Go.Proofs.YtckeeefeiljamaaGreatDoor.PRan
