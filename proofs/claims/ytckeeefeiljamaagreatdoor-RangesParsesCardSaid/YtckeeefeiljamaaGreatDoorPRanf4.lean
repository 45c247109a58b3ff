-- Written by a program of this session (wip/pgiven.py) out of the translation: functions as the program has them, with their proofs.
import Derived.Test.YtckeeefeiljamaaGreatDoorXG
import Derived.Test.YtckeeefeiljamaaGreatDoorXJ
import Derived.Test.YtckeeefeiljamaaGreatDoorPRanx2
namespace Go.Proofs.YtckeeefeiljamaaGreatDoor.PRan
open Go.RowKit Go.Proofs.YtckeeefeiljamaaGreatDoorW.PrintWords Go.Proofs.YtckeeefeiljamaaGreatDoorW.PrintLast Go.Proofs.YtckeeefeiljamaaGreatDoorW.PrintMore
attribute [local go_sem] max2_int min2_int max_two min_two max_three min_three max_four min_four   -- for this text's walks alone
set_option linter.unusedVariables false
set_option linter.unusedSimpArgs false

attribute [local go_sem high] eqA53
/-! ### slipwaylaw02_plain: function 14 -/
mutual
def slipwaylaw02_plain.l0 : Nat → List (List (S48)) → Int → Int → List (List (S53)) → Option ((List (List (S53))) × Bool)
  | 0, _, _, _, _ => none
  | k + 1, x16, x17, x18, x152000 => if x18 < x17 then (if 0 ≤ x18 then (if x18 < (x16.length : Int) then (if ((rd_L7 x16 x18).length : Int) > 20 then (some (x152000, false)) else (slipwaylaw02_plain.l1 k ([] : List (S53)) x16 x17 x18 (rd_L7 x16 x18) ((rd_L7 x16 x18).length : Int) 0 x152000)) else (none)) else (none)) else (some (x152000, true))
def slipwaylaw02_plain.l1 : Nat → List (S53) → List (List (S48)) → Int → Int → List (S48) → Int → Int → List (List (S53)) → Option ((List (List (S53))) × Bool)
  | 0, _, _, _, _, _, _, _, _ => none
  | k + 1, x7, x16, x17, x18, x26, x27, x28, x152000 => if x28 < x27 then (if 0 ≤ x28 then (if x28 < (x26.length : Int) then (if (((rd_T48 x26 x28).f1.f3).size : Int) > 100 then (some (x152000, false)) else (if x7.length < 2932031007402 then (slipwaylaw02_plain.l1 k (x7 ++ [(⟨(rd_T48 x26 x28).f0, (⟨(rd_T48 x26 x28).f1.f0, (rd_T48 x26 x28).f1.f1, (rd_T48 x26 x28).f1.f2, (rd_T48 x26 x28).f1.f3⟩ : S41)⟩ : S53)]) x16 x17 x18 x26 x27 (wrap64 (x28 + 1)) x152000) else (none))) else (none)) else (none)) else (if x152000.length < 5864062014805 then (slipwaylaw02_plain.l0 k x16 x17 (wrap64 (x18 + 1)) (x152000 ++ [x7])) else (none))
end
def slipwaylaw02_plain.f (k : Nat) (l0_0 : List (List (S48))) : Option ((List (List (S53))) × Bool) := if (l0_0.length : Int) > 20 then (some (([] : List (List (S53))), false)) else (slipwaylaw02_plain.l0 k l0_0 (l0_0.length : Int) 0 ([] : List (List (S53))))
theorem slipwaylaw02_plain.mono_l : ∀ k, (∀ y0 y1 y2 y3, LeO (slipwaylaw02_plain.l0 k y0 y1 y2 y3) (slipwaylaw02_plain.l0 (k + 1) y0 y1 y2 y3)) ∧ (∀ y0 y1 y2 y3 y4 y5 y6 y7, LeO (slipwaylaw02_plain.l1 k y0 y1 y2 y3 y4 y5 y6 y7) (slipwaylaw02_plain.l1 (k + 1) y0 y1 y2 y3 y4 y5 y6 y7))
  | 0 => ⟨fun _ _ _ _ r h => by simp [slipwaylaw02_plain.l0] at h, fun _ _ _ _ _ _ _ _ r h => by simp [slipwaylaw02_plain.l1] at h⟩
  | k + 1 => by
    obtain ⟨ih0, ih1⟩ := slipwaylaw02_plain.mono_l k
    refine ⟨?_, ?_⟩
    · intro y0 y1 y2 y3
      unfold slipwaylaw02_plain.l0
      repeat' first
      | (with_reducible exact ih0 _ _ _ _)
      | (with_reducible exact ih1 _ _ _ _ _ _ _ _)
      | (with_reducible exact LeO.refl _)
      | (with_reducible exact LeO.none _)
      | (with_reducible refine LeO.ite ?_ ?_)
      | (with_reducible refine LeO.bind ?_ (fun _ => ?_))
      | exact ih0 _ _ _ _
      | exact ih1 _ _ _ _ _ _ _ _
      | exact LeO.none _
      | refine LeO.ite ?_ ?_
      | refine LeO.bind ?_ (fun _ => ?_)
    · intro y0 y1 y2 y3 y4 y5 y6 y7
      unfold slipwaylaw02_plain.l1
      repeat' first
      | (with_reducible exact ih0 _ _ _ _)
      | (with_reducible exact ih1 _ _ _ _ _ _ _ _)
      | (with_reducible exact LeO.refl _)
      | (with_reducible exact LeO.none _)
      | (with_reducible refine LeO.ite ?_ ?_)
      | (with_reducible refine LeO.bind ?_ (fun _ => ?_))
      | exact ih0 _ _ _ _
      | exact ih1 _ _ _ _ _ _ _ _
      | exact LeO.none _
      | refine LeO.ite ?_ ?_
      | refine LeO.bind ?_ (fun _ => ?_)
theorem slipwaylaw02_plain.mono : ∀ a0 k, LeO (slipwaylaw02_plain.f k a0) (slipwaylaw02_plain.f (k + 1) a0) := by
  intro a0 k
  obtain ⟨ih0, ih1⟩ := slipwaylaw02_plain.mono_l k
  unfold slipwaylaw02_plain.f
  repeat' first
      | (with_reducible exact ih0 _ _ _ _)
      | (with_reducible exact ih1 _ _ _ _ _ _ _ _)
      | (with_reducible exact LeO.refl _)
      | (with_reducible exact LeO.none _)
      | (with_reducible refine LeO.ite ?_ ?_)
      | (with_reducible refine LeO.bind ?_ (fun _ => ?_))
      | exact ih0 _ _ _ _
      | exact ih1 _ _ _ _ _ _ _ _
      | exact LeO.none _
      | refine LeO.ite ?_ ?_
      | refine LeO.bind ?_ (fun _ => ?_)
set_option maxHeartbeats 8000000 in
set_option maxRecDepth 100000 in
theorem slipwaylaw02_plain.calls (k : Nat) (A0_0 : Option Addr) (c0_0 : Nat) (l0_0 : List (List (S48))) (r1 : List (List (S53))) (r2 : Bool) (w : World) (hr0_0 : Kd.C (Kd.slice 48 k48) w A0_0 l0_0.length l0_0) (hc0_0 : l0_0.length ≤ c0_0) (h : slipwaylaw02_plain.f k l0_0 = some (r1, r2)) :
    Calls Tryz.prog 14 #[.agg #[.slice A0_0 l0_0.length c0_0]] w fun e w' => ∃ v0_ : Value, e = .returned (.tuple #[.agg #[v0_], .bool r2]) ∧ Kd.S (Kd.slice 53 k53) 51 w' w.heap.size (fun _ => True) v0_ r1 ∧ Below w.heap.size w w' := by
  have hu25 := Tryz.underlying25
  have hu31 := Tryz.underlying31
  have hu48 := Tryz.underlying48
  have hu38 := Tryz.underlying38
  have hu53 := Tryz.underlying53
  have HR0_0 := Aside0.mk hr0_0
  have HC0_0 := Aside0.mk hc0_0
  clear hr0_0 hc0_0
  have HB := Aside0.mk (Below.refl w.heap.size w)
  have H : (if (l0_0.length : Int) > 20 then (some (([] : List (List (S53))), false)) else (slipwaylaw02_plain.l0 k l0_0 (l0_0.length : Int) 0 ([] : List (List (S53))))) = some (r1, r2) := h
  clear h
  by_cases c2 : (l0_0.length : Int) > 20
  · rw [if_pos c2] at H
    have c2b0 : decide (20 < (l0_0.length : Int)) = true := decide_eq_true c2
    have c2b1 : decide (20 < l0_0.length) = true := decide_eq_true (by omega)
    clear c2
    simp only [Option.some.injEq, Prod.mk.injEq] at H
    obtain ⟨rfl, rfl⟩ := H
    go_enter Tryz.func14, Tryz.ntmps14
    go_wp2_with (first | ((with_reducible refine gate_dst (N := 1) rfl ?_); refine box_event ?hg (N := 1) ?hd (cs := #[.slice A0_0 l0_0.length c0_0]) (t := 25) ?hr ?_; (case hd => rfl); (case hg => rfl); (case hr => first | (go_simp; done) | (go_simp; rfl)); intro gb149 hg w3 hbox hb; have n0_ := zs HB hb; have n1_ := Aside0.mk (hbox); have n2_ := zz HB hg; have n3_ := zz HB hg; clear HB; have HB := n0_; have BK149 := n1_; have GW149 := n2_; have GE149 := n3_; clear n0_ n1_ n2_ n3_; clear hb hbox hg) | ((with_reducible refine gate_dst (N := 2) rfl ?_); refine box_event ?hg (N := 2) ?hd (cs := #[.slice none 0 0]) (t := 31) ?hr ?_; (case hd => rfl); (case hg => rfl); (case hr => first | (go_simp; done) | (go_simp; rfl)); intro gb150 hg w4 hbox hb; have n0_ := zb BK149 hb; have n1_ := zs HB hb; have n2_ := Aside0.mk (hbox); have n3_ := zz HB hg; have n4_ := zz HB hg; have n5_ := zn BK149 hg; have n6_ := zm BK149 hg; clear BK149; clear HB; have BK149 := n0_; have HB := n1_; have BK150 := n2_; have GW150 := n3_; have GE150 := n4_; have NB149_150 := n5_; have NB150_149 := n6_; clear n0_ n1_ n2_ n3_ n4_ n5_ n6_; clear hb hbox hg) | ((with_reducible refine gate_dst (N := 4) rfl ?_); refine box_event ?hg (N := 4) ?hd (cs := #[.slice none 0 0]) (t := 31) ?hr ?_; (case hd => rfl); (case hg => rfl); (case hr => first | (go_simp; done) | (go_simp; rfl)); intro gb151 hg w5 hbox hb; have n0_ := zb BK149 hb; have n1_ := zb BK150 hb; have n2_ := zs HB hb; have n3_ := Aside0.mk (hbox); have n4_ := zz HB hg; have n5_ := zz HB hg; have n6_ := zn BK149 hg; have n7_ := zm BK149 hg; have n8_ := zn BK150 hg; have n9_ := zm BK150 hg; clear BK149; clear BK150; clear HB; have BK149 := n0_; have BK150 := n1_; have HB := n2_; have BK151 := n3_; have GW151 := n4_; have GE151 := n5_; have NB149_151 := n6_; have NB151_149 := n7_; have NB150_151 := n8_; have NB151_150 := n9_; clear n0_ n1_ n2_ n3_ n4_ n5_ n6_ n7_ n8_ n9_; clear hb hbox hg; have hnb6 := NB149_150.out; have hnc6 := NB150_149.out; have hnb7 := NB149_151.out; have hnc7 := NB151_149.out; have hcz8_0 := zc1 BK149; have hfz8_0 := zf1 BK149; have hnb9 := NB151_150.out; have hnc9 := NB150_151.out; have hcz10_0 := zc1 BK151; have hfz10_0 := zf1 BK151; have hcz11_0 := zc1 BK150; have hfz11_0 := zf1 BK150) | ((with_reducible refine gate_store (t := 31) (p := 2) rfl ?_); refine store_event (t := 31) (p := 2) (v := ?vo_w12) (w1 := (w5.setCell ⟨gb150, 0, none⟩ (.slice none 0 0))) ?hg ?ho ?hn ?hr ?_; (case ho => rfl); (case hg => rfl); (case hn => rfl); (case hr => first | (go_simp; done) | (go_simp; rfl)); intro w12 hw; have n0_ := zw BK149 hw; have n1_ : Aside0 (w12.heap[gb150]? = some (.cells #[.slice none 0 0] 31 (0, 0))) := ⟨(by rw [hw]; exact (by refine blk_put (cs := #[.slice none 0 0]) ?_ 0 _ rfl; (with_reducible repeat (first | refine blk_drewN ?_ _ | refine blk_drew ?_ | refine blk_alloc ?_ _)); exact BK150.out))⟩; have n2_ := zw BK151 hw; have n3_ := zu HB hw; clear hw; clear BK149; clear BK150; clear BK151; clear HB; have BK149 := n0_; have BK150 := n1_; have BK151 := n2_; have HB := n3_; clear n0_ n1_ n2_ n3_))
    refine bodyPost_ret (results_ct rfl _ _ gb150 31 #[.slice none 0 0] (0, 0) _ rfl (by (with_reducible repeat (first | refine blk_drewN ?_ _ | refine blk_drew ?_ | refine blk_alloc ?_ _)); exact BK150.out) Tryz.underlying31 rfl (by kernel_rfl)) rfl ?_
    exact ⟨_, by first | rfl | (simp [errW_none, errW_some] <;> rfl) | (simp [*, errW_none, errW_some] <;> rfl), by first | exact Kd.S_nil _ _ _ _ _ | exact Kd.N_nil _ _ _ _ _ | exact Kd.V_nil _ _ _ _ _ | exact Kd.Q_nil _ _ _ _ _ | exact Kd.R_nil _ _ _ _ _, zB HB⟩
  · rw [if_neg c2] at H
    have c2b0 : decide (20 < (l0_0.length : Int)) = false := decide_eq_false c2
    have c2b1 : decide (20 < l0_0.length) = false := decide_eq_false (by omega)
    clear c2
    have H' := Aside0.mk H
    clear H
    go_enter Tryz.func14, Tryz.ntmps14
    go_wp2_with (first | ((with_reducible refine gate_dst (N := 1) rfl ?_); refine box_event ?hg (N := 1) ?hd (cs := #[.slice A0_0 l0_0.length c0_0]) (t := 25) ?hr ?_; (case hd => rfl); (case hg => rfl); (case hr => first | (go_simp; done) | (go_simp; rfl)); intro gb149 hg w13 hbox hb; have n0_ := zs HB hb; have n1_ := Aside0.mk (hbox); have n2_ := zz HB hg; have n3_ := zz HB hg; clear HB; have HB := n0_; have BK149 := n1_; have GW149 := n2_; have GE149 := n3_; clear n0_ n1_ n2_ n3_; clear hb hbox hg) | ((with_reducible refine gate_dst (N := 2) rfl ?_); refine box_event ?hg (N := 2) ?hd (cs := #[.slice none 0 0]) (t := 31) ?hr ?_; (case hd => rfl); (case hg => rfl); (case hr => first | (go_simp; done) | (go_simp; rfl)); intro gb150 hg w14 hbox hb; have n0_ := zb BK149 hb; have n1_ := zs HB hb; have n2_ := Aside0.mk (hbox); have n3_ := zz HB hg; have n4_ := zz HB hg; have n5_ := zn BK149 hg; have n6_ := zm BK149 hg; clear BK149; clear HB; have BK149 := n0_; have HB := n1_; have BK150 := n2_; have GW150 := n3_; have GE150 := n4_; have NB149_150 := n5_; have NB150_149 := n6_; clear n0_ n1_ n2_ n3_ n4_ n5_ n6_; clear hb hbox hg) | ((with_reducible refine gate_dst (N := 4) rfl ?_); refine box_event ?hg (N := 4) ?hd (cs := #[.slice none 0 0]) (t := 31) ?hr ?_; (case hd => rfl); (case hg => rfl); (case hr => first | (go_simp; done) | (go_simp; rfl)); intro gb151 hg w15 hbox hb; have n0_ := zb BK149 hb; have n1_ := zb BK150 hb; have n2_ := zs HB hb; have n3_ := Aside0.mk (hbox); have n4_ := zz HB hg; have n5_ := zz HB hg; have n6_ := zn BK149 hg; have n7_ := zm BK149 hg; have n8_ := zn BK150 hg; have n9_ := zm BK150 hg; clear BK149; clear BK150; clear HB; have BK149 := n0_; have BK150 := n1_; have HB := n2_; have BK151 := n3_; have GW151 := n4_; have GE151 := n5_; have NB149_151 := n6_; have NB151_149 := n7_; have NB150_151 := n8_; have NB151_150 := n9_; clear n0_ n1_ n2_ n3_ n4_ n5_ n6_ n7_ n8_ n9_; clear hb hbox hg; have hnb16 := NB149_150.out; have hnc16 := NB150_149.out; have hnb17 := NB149_151.out; have hnc17 := NB151_149.out; have hcz18_0 := zc1 BK149; have hfz18_0 := zf1 BK149))
    go_loopg [18] k (fun kq v18 w' => ∃ (x18_1 : Int) (x152000_1 : List (List (S53))) (u152000 : Value), v18 = .int .i64 x18_1 ∧ Aside0 (slipwaylaw02_plain.l0 kq l0_0 (l0_0.length : Int) x18_1 x152000_1 = some (r1, r2)) ∧ Aside0 (kq ≤ k) ∧ Aside0 (Kd.S (Kd.slice 53 k53) 51 w' w.heap.size (fun _ => True) u152000 x152000_1) ∧ Aside0 (w'.heap[gb149]? = some (.cells #[(.slice A0_0 l0_0.length c0_0)] 25 (0, 0))) ∧ Aside0 (w'.heap[gb150]? = some (.cells #[(.slice none 0 0)] 31 (0, 0))) ∧ Aside0 (w'.heap[gb151]? = some (.cells #[u152000] 31 (0, 0))) ∧ Aside0 (Below w.heap.size w w'))
    case atStart => exact ⟨(0), (([] : List (List (S53)))), (.slice none 0 0), (by first | rfl | (simp; done) | (simp [*]; done)), H', ⟨Nat.le_refl _⟩, ⟨by first | exact Kd.S_nil _ _ _ _ _ | exact Kd.N_nil _ _ _ _ _ | exact Kd.V_nil _ _ _ _ _ | exact Kd.Q_nil _ _ _ _ _ | exact Kd.R_nil _ _ _ _ _⟩, ⟨by (with_reducible repeat (first | refine blk_drewN ?_ _ | refine blk_drew ?_ | refine blk_alloc ?_ _)); exact BK149.out⟩, ⟨by (with_reducible repeat (first | refine blk_drewN ?_ _ | refine blk_drew ?_ | refine blk_alloc ?_ _)); exact BK150.out⟩, ⟨by (with_reducible repeat (first | refine blk_drewN ?_ _ | refine blk_drew ?_ | refine blk_alloc ?_ _)); exact BK151.out⟩, ⟨zB HB⟩⟩
    case round =>
      clear H'
      try clear c1
      try clear c2
      try clear c2b0
      try clear c2b1
      try clear p2
      try clear c6
      try clear c7
      try clear c9
      try clear c14
      try clear c16
      try clear c17
      try clear hcz10_0
      try clear hcz11_0
      try clear hcz18_0
      try clear hcz8_0
      try clear hfz10_0
      try clear hfz11_0
      try clear hfz18_0
      try clear hfz8_0
      obtain ⟨x18_1, x152000_1, u152000, rfl, HA, HK1, HO_152000, BK149, BK150, BK151, HB⟩ := hrel
      cases gk with
      | zero => exact absurd HA.out (by simp [slipwaylaw02_plain.l0])
      | succ k1 =>
        have H := HA.out
        clear HA
        simp only [slipwaylaw02_plain.l0] at H
        by_cases c19 : x18_1 < (l0_0.length : Int)
        · rw [if_pos c19] at H
          have c19b0 : decide (x18_1 < (l0_0.length : Int)) = true := decide_eq_true c19
          clear c19
          by_cases c20 : 0 ≤ x18_1
          · rw [if_pos c20] at H
            have c20b0 : decide (0 ≤ x18_1) = true := decide_eq_true c20
            clear c20
            by_cases c21 : x18_1 < (l0_0.length : Int)
            · rw [if_pos c21] at H
              have c21b0 : decide (x18_1 < (l0_0.length : Int)) = true := decide_eq_true c21
              clear c21
              by_cases c22 : ((rd_L7 l0_0 x18_1).length : Int) > 20
              · rw [if_pos c22] at H
                have c22b0 : decide (20 < ((rd_L7 l0_0 x18_1).length : Int)) = true := decide_eq_true c22
                have c22b1 : decide (20 < (rd_L7 l0_0 x18_1).length) = true := decide_eq_true (by omega)
                clear c22
                simp only [Option.some.injEq, Prod.mk.injEq] at H
                obtain ⟨rfl, rfl⟩ := H
                have p152 : 0 ≤ (x18_1 : Int) := of_decide_eq_true (by first | (with_reducible assumption) | assumption)
                have q152 : x18_1 < (l0_0.length : Int) := of_decide_eq_true (by first | (with_reducible assumption) | assumption)
                obtain ⟨ad152, A152_0, c152_0, e152, hx152_0, hl152_0, hi152_0⟩ := at_L7 HR0_0.out x18_1 p152 q152
                cases e152
                replace hx152_0 := (HB.out.cell (World.block_lt_of_cell? w _ hx152_0)).trans hx152_0
                have HR152_0 := Aside0.mk hi152_0
                have HC152_0 := Aside0.mk hl152_0
                clear hi152_0 hl152_0
                replace p152 := eq_true p152
                replace q152 := eq_true q152
                have hnb23 := NB151_149.out
                have hnc23 := NB149_151.out
                have hnb24 := NB151_150.out
                have hnc24 := NB150_151.out
                have hcz25_0 := zc1 BK151
                have hfz25_0 := zf1 BK151
                obtain ⟨Ao26, co26, eo26⟩ := Kd.S_slice HO_152000.out
                subst eo26
                have hnb27 := NB150_149.out
                have hnc27 := NB149_150.out
                have hcz28_0 := zc1 BK150
                have hfz28_0 := zf1 BK150
                go_wp2_with (first | ((with_reducible refine gate_store (t := 31) (p := 2) rfl ?_); refine store_event (t := 31) (p := 2) (v := ?vo_w29) (w1 := (wr.setCell ⟨gb150, 0, none⟩ (.slice Ao26 x152000_1.length co26))) ?hg ?ho ?hn ?hr ?_; (case ho => rfl); (case hg => rfl); (case hn => rfl); (case hr => first | (go_simp; done) | (go_simp; rfl)); intro w29 hw; have n0_ : Aside0 (Kd.S (Kd.slice 53 k53) 51 w29 w.heap.size (fun _ => True) (.slice Ao26 x152000_1.length co26) x152000_1) := ⟨(by rw [hw]; exact (by (with_reducible repeat (first | apply Kd.S_alloc | apply Kd.S_drewN | apply Kd.S_drew)); exact Kd.S_mono (Kd.S_far (p := ⟨gb150, 0, none⟩) (Kd.S_types HO_152000.out BK150.out (by decide)) (fun _ hk => hk.2) (.slice Ao26 x152000_1.length co26)) (fun _ hk => trivial)))⟩; have n1_ := zw BK149 hw; have n2_ : Aside0 (w29.heap[gb150]? = some (.cells #[.slice Ao26 x152000_1.length co26] 31 (0, 0))) := ⟨(by rw [hw]; exact (by refine blk_put (cs := #[.slice none 0 0]) ?_ 0 _ rfl; (with_reducible repeat (first | refine blk_drewN ?_ _ | refine blk_drew ?_ | refine blk_alloc ?_ _)); exact BK150.out))⟩; have n3_ := zw BK151 hw; have n4_ := zu HB hw; clear hw; clear HO_152000; clear BK149; clear BK150; clear BK151; clear HB; have HO_152000 := n0_; have BK149 := n1_; have BK150 := n2_; have BK151 := n3_; have HB := n4_; clear n0_ n1_ n2_ n3_ n4_))
                refine bodyPost_ret (results_ct rfl _ _ gb150 31 #[.slice Ao26 x152000_1.length co26] (0, 0) _ rfl (by (with_reducible repeat (first | refine blk_drewN ?_ _ | refine blk_drew ?_ | refine blk_alloc ?_ _)); exact BK150.out) Tryz.underlying31 rfl (by kernel_rfl)) rfl ?_
                exact ⟨_, by first | rfl | (simp [errW_none, errW_some] <;> rfl) | (simp [*, errW_none, errW_some] <;> rfl), by (with_reducible repeat (first | apply Kd.S_alloc | apply Kd.S_drewN | apply Kd.S_drew)); exact HO_152000.out, zB HB⟩
              · rw [if_neg c22] at H
                have c22b0 : decide (20 < ((rd_L7 l0_0 x18_1).length : Int)) = false := decide_eq_false c22
                have c22b1 : decide (20 < (rd_L7 l0_0 x18_1).length) = false := decide_eq_false (by omega)
                clear c22
                have H' := Aside0.mk H
                clear H
                have p152 : 0 ≤ (x18_1 : Int) := of_decide_eq_true (by first | (with_reducible assumption) | assumption)
                have q152 : x18_1 < (l0_0.length : Int) := of_decide_eq_true (by first | (with_reducible assumption) | assumption)
                obtain ⟨ad152, A152_0, c152_0, e152, hx152_0, hl152_0, hi152_0⟩ := at_L7 HR0_0.out x18_1 p152 q152
                cases e152
                replace hx152_0 := (HB.out.cell (World.block_lt_of_cell? w _ hx152_0)).trans hx152_0
                have HR152_0 := Aside0.mk hi152_0
                have HC152_0 := Aside0.mk hl152_0
                clear hi152_0 hl152_0
                replace p152 := eq_true p152
                replace q152 := eq_true q152
                go_wp2
                go_loopg [7, 28] k1 (fun kq v7 v28 w' => ∃ (x7_2 : List (S53)) (x28_2 : Int), v28 = .int .i64 x28_2 ∧ Aside0 (slipwaylaw02_plain.l1 kq x7_2 l0_0 (l0_0.length : Int) x18_1 (rd_L7 l0_0 x18_1) ((rd_L7 l0_0 x18_1).length : Int) x28_2 x152000_1 = some (r1, r2)) ∧ Aside0 (kq ≤ k1) ∧ Aside0 (Kd.R k53 53 w' w.heap.size (fun _ => True) v7 x7_2) ∧ Aside0 (Kd.S (Kd.slice 53 k53) 51 w' w.heap.size (fun k_ => some k_ ≠ (v7 : Value).ownBlock) u152000 x152000_1) ∧ Aside0 (w'.heap[gb149]? = some (.cells #[(.slice (some ad152) l0_0.length c0_0)] 25 (0, 0))) ∧ Aside0 (w'.heap[gb150]? = some (.cells #[(.slice none 0 0)] 31 (0, 0))) ∧ Aside0 (w'.heap[gb151]? = some (.cells #[u152000] 31 (0, 0))) ∧ Aside0 (Below w.heap.size w w'))
                case atStart => exact ⟨(([] : List (S53))), (0), (by first | rfl | (simp; done) | (simp [*]; done)), H', ⟨Nat.le_refl _⟩, ⟨by first | exact Kd.R_nil _ _ _ _ _ | exact Kd.N_nil _ _ _ _ _ | exact Kd.V_nil _ _ _ _ _ | exact Kd.Q_nil _ _ _ _ _ | exact Kd.S_nil _ _ _ _ _⟩, ⟨by (with_reducible repeat (first | apply Kd.S_alloc | apply Kd.S_drewN | apply Kd.S_drew)); exact Kd.S_mono HO_152000.out (fun _ hk => (by simp [Value.ownBlock]))⟩, ⟨by (with_reducible repeat (first | refine blk_drewN ?_ _ | refine blk_drew ?_ | refine blk_alloc ?_ _)); exact BK149.out⟩, ⟨by (with_reducible repeat (first | refine blk_drewN ?_ _ | refine blk_drew ?_ | refine blk_alloc ?_ _)); exact BK150.out⟩, ⟨by (with_reducible repeat (first | refine blk_drewN ?_ _ | refine blk_drew ?_ | refine blk_alloc ?_ _)); exact BK151.out⟩, ⟨zB HB⟩⟩
                case round =>
                  clear H'
                  try clear c1
                  try clear p1
                  try clear q1
                  try clear hx1
                  try clear c2
                  try clear c2b0
                  try clear c2b1
                  try clear p2
                  try clear c6
                  try clear c7
                  try clear c9
                  try clear c14
                  try clear c15
                  try clear p15
                  try clear q15
                  try clear hx15
                  try clear c16
                  try clear c17
                  try clear c19
                  try clear c19b0
                  try clear c20
                  try clear c20b0
                  try clear c21
                  try clear c21b0
                  try clear c22
                  try clear c22b0
                  try clear c22b1
                  try clear c23
                  try clear c24
                  try clear c27
                  try clear hcz10_0
                  try clear hcz11_0
                  try clear hcz18_0
                  try clear hcz25_0
                  try clear hcz28_0
                  try clear hcz8_0
                  try clear hfz10_0
                  try clear hfz11_0
                  try clear hfz18_0
                  try clear hfz25_0
                  try clear hfz28_0
                  try clear hfz8_0
                  try clear hx152_0
                  try clear p152
                  try clear p2
                  try clear q152
                  obtain ⟨x7_2, x28_2, rfl, HA, HK2, HO_7, HO_152000, BK149, BK150, BK151, HB⟩ := hrel
                  cases gk with
                  | zero => exact absurd HA.out (by simp [slipwaylaw02_plain.l1])
                  | succ k2 =>
                    have H := HA.out
                    clear HA
                    simp only [slipwaylaw02_plain.l1] at H
                    by_cases c30 : x28_2 < ((rd_L7 l0_0 x18_1).length : Int)
                    · rw [if_pos c30] at H
                      have c30b0 : decide (x28_2 < ((rd_L7 l0_0 x18_1).length : Int)) = true := decide_eq_true c30
                      clear c30
                      by_cases c31 : 0 ≤ x28_2
                      · rw [if_pos c31] at H
                        have c31b0 : decide (0 ≤ x28_2) = true := decide_eq_true c31
                        clear c31
                        by_cases c32 : x28_2 < ((rd_L7 l0_0 x18_1).length : Int)
                        · rw [if_pos c32] at H
                          have c32b0 : decide (x28_2 < ((rd_L7 l0_0 x18_1).length : Int)) = true := decide_eq_true c32
                          clear c32
                          by_cases c33 : (((rd_T48 (rd_L7 l0_0 x18_1) x28_2).f1.f3).size : Int) > 100
                          · rw [if_pos c33] at H
                            have c33b0 : decide (100 < (((rd_T48 (rd_L7 l0_0 x18_1) x28_2).f1.f3).size : Int)) = true := decide_eq_true c33
                            have c33b1 : decide (100 < ((rd_T48 (rd_L7 l0_0 x18_1) x28_2).f1.f3).size) = true := decide_eq_true (by omega)
                            clear c33
                            simp only [Option.some.injEq, Prod.mk.injEq] at H
                            obtain ⟨rfl, rfl⟩ := H
                            have p153 : 0 ≤ (x28_2 : Int) := of_decide_eq_true (by first | (with_reducible assumption) | assumption)
                            have q153 : x28_2 < ((rd_L7 l0_0 x18_1).length : Int) := of_decide_eq_true (by first | (with_reducible assumption) | assumption)
                            obtain ⟨ad153, e153, hx153_0, hx153_1, hx153_2, hx153_3, hx153_4⟩ := at_T48 HR152_0.out x28_2 p153 q153
                            cases e153
                            replace hx153_0 := (HB.out.cell (World.block_lt_of_cell? w _ hx153_0)).trans hx153_0
                            replace hx153_1 := (HB.out.cell (World.block_lt_of_cell? w _ hx153_1)).trans hx153_1
                            replace hx153_2 := (HB.out.cell (World.block_lt_of_cell? w _ hx153_2)).trans hx153_2
                            replace hx153_3 := (HB.out.cell (World.block_lt_of_cell? w _ hx153_3)).trans hx153_3
                            replace hx153_4 := (HB.out.cell (World.block_lt_of_cell? w _ hx153_4)).trans hx153_4
                            replace p153 := eq_true p153
                            replace q153 := eq_true q153
                            go_wp2_with (first | ((with_reducible refine gate_dst (N := 9) rfl ?_); refine box_event ?hg (N := 9) ?hd (cs := #[.int .i64 0, .int .i64 0, .int .i64 0, .int .i64 0, .string (⟨#[]⟩ : ByteArray)]) (t := 48) ?hr ?_; (case hd => rfl); (case hg => rfl); (case hr => first | (go_simp; done) | (go_simp; rfl)); intro gb154 hg w34 hbox hb; have n0_ := Aside0.mk (Kd.R_below (by (with_reducible repeat (first | apply Kd.R_alloc | apply Kd.R_drewN | apply Kd.R_drew)); exact HO_7.out) hb); have n1_ := Aside0.mk (Kd.S_below (by (with_reducible repeat (first | apply Kd.S_alloc | apply Kd.S_drewN | apply Kd.S_drew)); exact HO_152000.out) hb); have n2_ := zb BK149 hb; have n3_ := zb BK150 hb; have n4_ := zb BK151 hb; have n5_ := zs HB hb; have n6_ := Aside0.mk (hbox); have n7_ := zz HB hg; have n8_ := zz HB hg; have n9_ := zn BK149 hg; have n10_ := zm BK149 hg; have n11_ := zn BK150 hg; have n12_ := zm BK150 hg; have n13_ := zn BK151 hg; have n14_ := zm BK151 hg; clear HO_7; clear HO_152000; clear BK149; clear BK150; clear BK151; clear HB; have HO_7 := n0_; have HO_152000 := n1_; have BK149 := n2_; have BK150 := n3_; have BK151 := n4_; have HB := n5_; have BK154 := n6_; have GW154 := n7_; have GE154 := n8_; have NB149_154 := n9_; have NB154_149 := n10_; have NB150_154 := n11_; have NB154_150 := n12_; have NB151_154 := n13_; have NB154_151 := n14_; clear n0_ n1_ n2_ n3_ n4_ n5_ n6_ n7_ n8_ n9_ n10_ n11_ n12_ n13_ n14_; clear hb hbox hg; have hnb35 := NB154_149.out; have hnc35 := NB149_154.out; have hnb36 := NB154_150.out; have hnc36 := NB150_154.out; have hnb37 := NB154_151.out; have hnc37 := NB151_154.out; obtain ⟨hcz38_0, hcz38_1, hcz38_2, hcz38_3, hcz38_4⟩ := zc5 BK154; obtain ⟨hfz38_0, hfz38_1, hfz38_2, hfz38_3, hfz38_4⟩ := zf5 BK154) | ((with_reducible refine gate_store (t := 48) (p := 9) rfl ?_); refine store_event (t := 48) (p := 9) (v := ?vo_w39) (w1 := (((((w34.setCell ⟨gb154, 0, none⟩ (.int .i64 ((rd_T48 (rd_L7 l0_0 x18_1) x28_2).f0))).setCell ⟨gb154, 1, none⟩ (.int .i64 ((rd_T48 (rd_L7 l0_0 x18_1) x28_2).f1.f0))).setCell ⟨gb154, 2, none⟩ (.int .i64 ((rd_T48 (rd_L7 l0_0 x18_1) x28_2).f1.f1))).setCell ⟨gb154, 3, none⟩ (.int .i64 ((rd_T48 (rd_L7 l0_0 x18_1) x28_2).f1.f2))).setCell ⟨gb154, 4, none⟩ (.string ((rd_T48 (rd_L7 l0_0 x18_1) x28_2).f1.f3)))) ?hg ?ho ?hn ?hr ?_; (case ho => rfl); (case hg => rfl); (case hn => rfl); (case hr => first | (go_simp; done) | (go_simp; rfl)); intro w39 hw; have n0_ : Aside0 (Kd.R k53 53 w39 w.heap.size (fun _ => True) u7 x7_2) := ⟨(by rw [hw]; exact (by (with_reducible repeat (first | apply Kd.R_alloc | apply Kd.R_drewN | apply Kd.R_drew)); exact Kd.R_mono (Kd.R_far (p := ⟨gb154, 4, none⟩) (Kd.R_far (p := ⟨gb154, 3, none⟩) (Kd.R_far (p := ⟨gb154, 2, none⟩) (Kd.R_far (p := ⟨gb154, 1, none⟩) (Kd.R_far (p := ⟨gb154, 0, none⟩) (Kd.R_types HO_7.out BK154.out (by decide)) (fun _ hk => hk.2) (.int .i64 ((rd_T48 (rd_L7 l0_0 x18_1) x28_2).f0))) (fun _ hk => hk.2) (.int .i64 ((rd_T48 (rd_L7 l0_0 x18_1) x28_2).f1.f0))) (fun _ hk => hk.2) (.int .i64 ((rd_T48 (rd_L7 l0_0 x18_1) x28_2).f1.f1))) (fun _ hk => hk.2) (.int .i64 ((rd_T48 (rd_L7 l0_0 x18_1) x28_2).f1.f2))) (fun _ hk => hk.2) (.string ((rd_T48 (rd_L7 l0_0 x18_1) x28_2).f1.f3))) (fun _ hk => trivial)))⟩; have n1_ : Aside0 (Kd.S (Kd.slice 53 k53) 51 w39 w.heap.size (fun k_ => some k_ ≠ (u7 : Value).ownBlock) u152000 x152000_1) := ⟨(by rw [hw]; exact (by (with_reducible repeat (first | apply Kd.S_alloc | apply Kd.S_drewN | apply Kd.S_drew)); exact Kd.S_mono (Kd.S_far (p := ⟨gb154, 4, none⟩) (Kd.S_far (p := ⟨gb154, 3, none⟩) (Kd.S_far (p := ⟨gb154, 2, none⟩) (Kd.S_far (p := ⟨gb154, 1, none⟩) (Kd.S_far (p := ⟨gb154, 0, none⟩) (Kd.S_types HO_152000.out BK154.out (by decide)) (fun _ hk => hk.2) (.int .i64 ((rd_T48 (rd_L7 l0_0 x18_1) x28_2).f0))) (fun _ hk => hk.2) (.int .i64 ((rd_T48 (rd_L7 l0_0 x18_1) x28_2).f1.f0))) (fun _ hk => hk.2) (.int .i64 ((rd_T48 (rd_L7 l0_0 x18_1) x28_2).f1.f1))) (fun _ hk => hk.2) (.int .i64 ((rd_T48 (rd_L7 l0_0 x18_1) x28_2).f1.f2))) (fun _ hk => hk.2) (.string ((rd_T48 (rd_L7 l0_0 x18_1) x28_2).f1.f3))) (fun _ hk => hk.1)))⟩; have n2_ := zw BK149 hw; have n3_ := zw BK150 hw; have n4_ := zw BK151 hw; have n5_ : Aside0 (w39.heap[gb154]? = some (.cells #[.int .i64 ((rd_T48 (rd_L7 l0_0 x18_1) x28_2).f0), .int .i64 ((rd_T48 (rd_L7 l0_0 x18_1) x28_2).f1.f0), .int .i64 ((rd_T48 (rd_L7 l0_0 x18_1) x28_2).f1.f1), .int .i64 ((rd_T48 (rd_L7 l0_0 x18_1) x28_2).f1.f2), .string ((rd_T48 (rd_L7 l0_0 x18_1) x28_2).f1.f3)] 48 (0, 0))) := ⟨(by rw [hw]; exact (by refine blk_put (cs := #[.int .i64 ((rd_T48 (rd_L7 l0_0 x18_1) x28_2).f0), .int .i64 ((rd_T48 (rd_L7 l0_0 x18_1) x28_2).f1.f0), .int .i64 ((rd_T48 (rd_L7 l0_0 x18_1) x28_2).f1.f1), .int .i64 ((rd_T48 (rd_L7 l0_0 x18_1) x28_2).f1.f2), .string (⟨#[]⟩ : ByteArray)]) ?_ 4 _ rfl; refine blk_put (cs := #[.int .i64 ((rd_T48 (rd_L7 l0_0 x18_1) x28_2).f0), .int .i64 ((rd_T48 (rd_L7 l0_0 x18_1) x28_2).f1.f0), .int .i64 ((rd_T48 (rd_L7 l0_0 x18_1) x28_2).f1.f1), .int .i64 0, .string (⟨#[]⟩ : ByteArray)]) ?_ 3 _ rfl; refine blk_put (cs := #[.int .i64 ((rd_T48 (rd_L7 l0_0 x18_1) x28_2).f0), .int .i64 ((rd_T48 (rd_L7 l0_0 x18_1) x28_2).f1.f0), .int .i64 0, .int .i64 0, .string (⟨#[]⟩ : ByteArray)]) ?_ 2 _ rfl; refine blk_put (cs := #[.int .i64 ((rd_T48 (rd_L7 l0_0 x18_1) x28_2).f0), .int .i64 0, .int .i64 0, .int .i64 0, .string (⟨#[]⟩ : ByteArray)]) ?_ 1 _ rfl; refine blk_put (cs := #[.int .i64 0, .int .i64 0, .int .i64 0, .int .i64 0, .string (⟨#[]⟩ : ByteArray)]) ?_ 0 _ rfl; (with_reducible repeat (first | refine blk_drewN ?_ _ | refine blk_drew ?_ | refine blk_alloc ?_ _)); exact BK154.out))⟩; have n6_ := zu HB hw; clear hw; clear HO_7; clear HO_152000; clear BK149; clear BK150; clear BK151; clear BK154; clear HB; have HO_7 := n0_; have HO_152000 := n1_; have BK149 := n2_; have BK150 := n3_; have BK151 := n4_; have BK154 := n5_; have HB := n6_; clear n0_ n1_ n2_ n3_ n4_ n5_ n6_; obtain ⟨hcz40_0, hcz40_1, hcz40_2, hcz40_3, hcz40_4⟩ := zc5 BK154; obtain ⟨hfz40_0, hfz40_1, hfz40_2, hfz40_3, hfz40_4⟩ := zf5 BK154; have hnb41 := NB151_149.out; have hnc41 := NB149_151.out; have hnb42 := NB151_150.out; have hnc42 := NB150_151.out; have hcz43_0 := zc1 BK151; have hfz43_0 := zf1 BK151; obtain ⟨Ao44, co44, eo44⟩ := Kd.S_slice HO_152000.out; subst eo44; have hnb45 := NB150_149.out; have hnc45 := NB149_150.out; have hcz46_0 := zc1 BK150; have hfz46_0 := zf1 BK150) | ((with_reducible refine gate_store (t := 31) (p := 2) rfl ?_); refine store_event (t := 31) (p := 2) (v := ?vo_w47) (w1 := (w39.setCell ⟨gb150, 0, none⟩ (.slice Ao44 x152000_1.length co44))) ?hg ?ho ?hn ?hr ?_; (case ho => rfl); (case hg => rfl); (case hn => rfl); (case hr => first | (go_simp; done) | (go_simp; rfl)); intro w47 hw; have n0_ : Aside0 (Kd.R k53 53 w47 w.heap.size (fun _ => True) u7 x7_2) := ⟨(by rw [hw]; exact (by (with_reducible repeat (first | apply Kd.R_alloc | apply Kd.R_drewN | apply Kd.R_drew)); exact Kd.R_mono (Kd.R_far (p := ⟨gb150, 0, none⟩) (Kd.R_types HO_7.out BK150.out (by decide)) (fun _ hk => hk.2) (.slice Ao44 x152000_1.length co44)) (fun _ hk => trivial)))⟩; have n1_ : Aside0 (Kd.S (Kd.slice 53 k53) 51 w47 w.heap.size (fun k_ => some k_ ≠ (u7 : Value).ownBlock) (.slice Ao44 x152000_1.length co44) x152000_1) := ⟨(by rw [hw]; exact (by (with_reducible repeat (first | apply Kd.S_alloc | apply Kd.S_drewN | apply Kd.S_drew)); exact Kd.S_mono (Kd.S_far (p := ⟨gb150, 0, none⟩) (Kd.S_types HO_152000.out BK150.out (by decide)) (fun _ hk => hk.2) (.slice Ao44 x152000_1.length co44)) (fun _ hk => hk.1)))⟩; have n2_ := zw BK149 hw; have n3_ : Aside0 (w47.heap[gb150]? = some (.cells #[.slice Ao44 x152000_1.length co44] 31 (0, 0))) := ⟨(by rw [hw]; exact (by refine blk_put (cs := #[.slice none 0 0]) ?_ 0 _ rfl; (with_reducible repeat (first | refine blk_drewN ?_ _ | refine blk_drew ?_ | refine blk_alloc ?_ _)); exact BK150.out))⟩; have n4_ := zw BK151 hw; have n5_ := zw BK154 hw; have n6_ := zu HB hw; clear hw; clear HO_7; clear HO_152000; clear BK149; clear BK150; clear BK151; clear BK154; clear HB; have HO_7 := n0_; have HO_152000 := n1_; have BK149 := n2_; have BK150 := n3_; have BK151 := n4_; have BK154 := n5_; have HB := n6_; clear n0_ n1_ n2_ n3_ n4_ n5_ n6_))
                            refine bodyPost_ret (results_ct rfl _ _ gb150 31 #[.slice Ao44 x152000_1.length co44] (0, 0) _ rfl (by (with_reducible repeat (first | refine blk_drewN ?_ _ | refine blk_drew ?_ | refine blk_alloc ?_ _)); exact BK150.out) Tryz.underlying31 rfl (by kernel_rfl)) rfl ?_
                            exact ⟨_, by first | rfl | (simp [errW_none, errW_some] <;> rfl) | (simp [*, errW_none, errW_some] <;> rfl), by (with_reducible repeat (first | apply Kd.S_alloc | apply Kd.S_drewN | apply Kd.S_drew)); exact Kd.S_mono HO_152000.out (fun _ hk => trivial), zB HB⟩
                          · rw [if_neg c33] at H
                            have c33b0 : decide (100 < (((rd_T48 (rd_L7 l0_0 x18_1) x28_2).f1.f3).size : Int)) = false := decide_eq_false c33
                            have c33b1 : decide (100 < ((rd_T48 (rd_L7 l0_0 x18_1) x28_2).f1.f3).size) = false := decide_eq_false (by omega)
                            clear c33
                            by_cases c48 : x7_2.length < 2932031007402
                            · rw [if_pos c48] at H
                              have LMc48 := Aside0.mk c48
                              clear c48
                              obtain ⟨y155, hy155⟩ : ∃ y_ : List (S53), y_ = (x7_2 ++ [(⟨(rd_T48 (rd_L7 l0_0 x18_1) x28_2).f0, (⟨(rd_T48 (rd_L7 l0_0 x18_1) x28_2).f1.f0, (rd_T48 (rd_L7 l0_0 x18_1) x28_2).f1.f1, (rd_T48 (rd_L7 l0_0 x18_1) x28_2).f1.f2, (rd_T48 (rd_L7 l0_0 x18_1) x28_2).f1.f3⟩ : S41)⟩ : S53)]) := ⟨_, rfl⟩
                              replace H : (slipwaylaw02_plain.l1 k2 y155 l0_0 (l0_0.length : Int) x18_1 (rd_L7 l0_0 x18_1) ((rd_L7 l0_0 x18_1).length : Int) (wrap64 (x28_2 + 1)) x152000_1) = some (r1, r2) := by first | (rw [hy155]; with_reducible exact H) | (have H2_ := (Option.bind_some _ _).symm.trans H; rw [hy155]; with_reducible exact H2_) | (have H2_ := (Option.bind_some _ _).symm.trans H; with_reducible exact H2_) | with_reducible exact H | (rw [hy155]; exact H) | exact H
                              have Ny155 := Aside0.mk hy155
                              clear hy155
                              have H' := Aside0.mk H
                              clear H
                              have p153 : 0 ≤ (x28_2 : Int) := of_decide_eq_true (by first | (with_reducible assumption) | assumption)
                              have q153 : x28_2 < ((rd_L7 l0_0 x18_1).length : Int) := of_decide_eq_true (by first | (with_reducible assumption) | assumption)
                              obtain ⟨ad153, e153, hx153_0, hx153_1, hx153_2, hx153_3, hx153_4⟩ := at_T48 HR152_0.out x28_2 p153 q153
                              cases e153
                              replace hx153_0 := (HB.out.cell (World.block_lt_of_cell? w _ hx153_0)).trans hx153_0
                              replace hx153_1 := (HB.out.cell (World.block_lt_of_cell? w _ hx153_1)).trans hx153_1
                              replace hx153_2 := (HB.out.cell (World.block_lt_of_cell? w _ hx153_2)).trans hx153_2
                              replace hx153_3 := (HB.out.cell (World.block_lt_of_cell? w _ hx153_3)).trans hx153_3
                              replace hx153_4 := (HB.out.cell (World.block_lt_of_cell? w _ hx153_4)).trans hx153_4
                              replace p153 := eq_true p153
                              replace q153 := eq_true q153
                              go_wp2_with (first | ((with_reducible refine gate_dst (N := 9) rfl ?_); refine box_event ?hg (N := 9) ?hd (cs := #[.int .i64 0, .int .i64 0, .int .i64 0, .int .i64 0, .string (⟨#[]⟩ : ByteArray)]) (t := 48) ?hr ?_; (case hd => rfl); (case hg => rfl); (case hr => first | (go_simp; done) | (go_simp; rfl)); intro gb154 hg w49 hbox hb; have n0_ := Aside0.mk (Kd.R_below (by (with_reducible repeat (first | apply Kd.R_alloc | apply Kd.R_drewN | apply Kd.R_drew)); exact HO_7.out) hb); have n1_ := Aside0.mk (Kd.S_below (by (with_reducible repeat (first | apply Kd.S_alloc | apply Kd.S_drewN | apply Kd.S_drew)); exact HO_152000.out) hb); have n2_ := zb BK149 hb; have n3_ := zb BK150 hb; have n4_ := zb BK151 hb; have n5_ := zs HB hb; have n6_ := Aside0.mk (hbox); have n7_ := zz HB hg; have n8_ := zz HB hg; have n9_ := zn BK149 hg; have n10_ := zm BK149 hg; have n11_ := zn BK150 hg; have n12_ := zm BK150 hg; have n13_ := zn BK151 hg; have n14_ := zm BK151 hg; clear HO_7; clear HO_152000; clear BK149; clear BK150; clear BK151; clear HB; have HO_7 := n0_; have HO_152000 := n1_; have BK149 := n2_; have BK150 := n3_; have BK151 := n4_; have HB := n5_; have BK154 := n6_; have GW154 := n7_; have GE154 := n8_; have NB149_154 := n9_; have NB154_149 := n10_; have NB150_154 := n11_; have NB154_150 := n12_; have NB151_154 := n13_; have NB154_151 := n14_; clear n0_ n1_ n2_ n3_ n4_ n5_ n6_ n7_ n8_ n9_ n10_ n11_ n12_ n13_ n14_; clear hb hbox hg; have hnb50 := NB154_149.out; have hnc50 := NB149_154.out; have hnb51 := NB154_150.out; have hnc51 := NB150_154.out; have hnb52 := NB154_151.out; have hnc52 := NB151_154.out; obtain ⟨hcz53_0, hcz53_1, hcz53_2, hcz53_3, hcz53_4⟩ := zc5 BK154; obtain ⟨hfz53_0, hfz53_1, hfz53_2, hfz53_3, hfz53_4⟩ := zf5 BK154) | ((with_reducible refine gate_store (t := 48) (p := 9) rfl ?_); refine store_event (t := 48) (p := 9) (v := ?vo_w54) (w1 := (((((w49.setCell ⟨gb154, 0, none⟩ (.int .i64 ((rd_T48 (rd_L7 l0_0 x18_1) x28_2).f0))).setCell ⟨gb154, 1, none⟩ (.int .i64 ((rd_T48 (rd_L7 l0_0 x18_1) x28_2).f1.f0))).setCell ⟨gb154, 2, none⟩ (.int .i64 ((rd_T48 (rd_L7 l0_0 x18_1) x28_2).f1.f1))).setCell ⟨gb154, 3, none⟩ (.int .i64 ((rd_T48 (rd_L7 l0_0 x18_1) x28_2).f1.f2))).setCell ⟨gb154, 4, none⟩ (.string ((rd_T48 (rd_L7 l0_0 x18_1) x28_2).f1.f3)))) ?hg ?ho ?hn ?hr ?_; (case ho => rfl); (case hg => rfl); (case hn => rfl); (case hr => first | (go_simp; done) | (go_simp; rfl)); intro w54 hw; have n0_ : Aside0 (Kd.R k53 53 w54 w.heap.size (fun _ => True) u7 x7_2) := ⟨(by rw [hw]; exact (by (with_reducible repeat (first | apply Kd.R_alloc | apply Kd.R_drewN | apply Kd.R_drew)); exact Kd.R_mono (Kd.R_far (p := ⟨gb154, 4, none⟩) (Kd.R_far (p := ⟨gb154, 3, none⟩) (Kd.R_far (p := ⟨gb154, 2, none⟩) (Kd.R_far (p := ⟨gb154, 1, none⟩) (Kd.R_far (p := ⟨gb154, 0, none⟩) (Kd.R_types HO_7.out BK154.out (by decide)) (fun _ hk => hk.2) (.int .i64 ((rd_T48 (rd_L7 l0_0 x18_1) x28_2).f0))) (fun _ hk => hk.2) (.int .i64 ((rd_T48 (rd_L7 l0_0 x18_1) x28_2).f1.f0))) (fun _ hk => hk.2) (.int .i64 ((rd_T48 (rd_L7 l0_0 x18_1) x28_2).f1.f1))) (fun _ hk => hk.2) (.int .i64 ((rd_T48 (rd_L7 l0_0 x18_1) x28_2).f1.f2))) (fun _ hk => hk.2) (.string ((rd_T48 (rd_L7 l0_0 x18_1) x28_2).f1.f3))) (fun _ hk => trivial)))⟩; have n1_ : Aside0 (Kd.S (Kd.slice 53 k53) 51 w54 w.heap.size (fun k_ => some k_ ≠ (u7 : Value).ownBlock) u152000 x152000_1) := ⟨(by rw [hw]; exact (by (with_reducible repeat (first | apply Kd.S_alloc | apply Kd.S_drewN | apply Kd.S_drew)); exact Kd.S_mono (Kd.S_far (p := ⟨gb154, 4, none⟩) (Kd.S_far (p := ⟨gb154, 3, none⟩) (Kd.S_far (p := ⟨gb154, 2, none⟩) (Kd.S_far (p := ⟨gb154, 1, none⟩) (Kd.S_far (p := ⟨gb154, 0, none⟩) (Kd.S_types HO_152000.out BK154.out (by decide)) (fun _ hk => hk.2) (.int .i64 ((rd_T48 (rd_L7 l0_0 x18_1) x28_2).f0))) (fun _ hk => hk.2) (.int .i64 ((rd_T48 (rd_L7 l0_0 x18_1) x28_2).f1.f0))) (fun _ hk => hk.2) (.int .i64 ((rd_T48 (rd_L7 l0_0 x18_1) x28_2).f1.f1))) (fun _ hk => hk.2) (.int .i64 ((rd_T48 (rd_L7 l0_0 x18_1) x28_2).f1.f2))) (fun _ hk => hk.2) (.string ((rd_T48 (rd_L7 l0_0 x18_1) x28_2).f1.f3))) (fun _ hk => hk.1)))⟩; have n2_ := zw BK149 hw; have n3_ := zw BK150 hw; have n4_ := zw BK151 hw; have n5_ : Aside0 (w54.heap[gb154]? = some (.cells #[.int .i64 ((rd_T48 (rd_L7 l0_0 x18_1) x28_2).f0), .int .i64 ((rd_T48 (rd_L7 l0_0 x18_1) x28_2).f1.f0), .int .i64 ((rd_T48 (rd_L7 l0_0 x18_1) x28_2).f1.f1), .int .i64 ((rd_T48 (rd_L7 l0_0 x18_1) x28_2).f1.f2), .string ((rd_T48 (rd_L7 l0_0 x18_1) x28_2).f1.f3)] 48 (0, 0))) := ⟨(by rw [hw]; exact (by refine blk_put (cs := #[.int .i64 ((rd_T48 (rd_L7 l0_0 x18_1) x28_2).f0), .int .i64 ((rd_T48 (rd_L7 l0_0 x18_1) x28_2).f1.f0), .int .i64 ((rd_T48 (rd_L7 l0_0 x18_1) x28_2).f1.f1), .int .i64 ((rd_T48 (rd_L7 l0_0 x18_1) x28_2).f1.f2), .string (⟨#[]⟩ : ByteArray)]) ?_ 4 _ rfl; refine blk_put (cs := #[.int .i64 ((rd_T48 (rd_L7 l0_0 x18_1) x28_2).f0), .int .i64 ((rd_T48 (rd_L7 l0_0 x18_1) x28_2).f1.f0), .int .i64 ((rd_T48 (rd_L7 l0_0 x18_1) x28_2).f1.f1), .int .i64 0, .string (⟨#[]⟩ : ByteArray)]) ?_ 3 _ rfl; refine blk_put (cs := #[.int .i64 ((rd_T48 (rd_L7 l0_0 x18_1) x28_2).f0), .int .i64 ((rd_T48 (rd_L7 l0_0 x18_1) x28_2).f1.f0), .int .i64 0, .int .i64 0, .string (⟨#[]⟩ : ByteArray)]) ?_ 2 _ rfl; refine blk_put (cs := #[.int .i64 ((rd_T48 (rd_L7 l0_0 x18_1) x28_2).f0), .int .i64 0, .int .i64 0, .int .i64 0, .string (⟨#[]⟩ : ByteArray)]) ?_ 1 _ rfl; refine blk_put (cs := #[.int .i64 0, .int .i64 0, .int .i64 0, .int .i64 0, .string (⟨#[]⟩ : ByteArray)]) ?_ 0 _ rfl; (with_reducible repeat (first | refine blk_drewN ?_ _ | refine blk_drew ?_ | refine blk_alloc ?_ _)); exact BK154.out))⟩; have n6_ := zu HB hw; clear hw; clear HO_7; clear HO_152000; clear BK149; clear BK150; clear BK151; clear BK154; clear HB; have HO_7 := n0_; have HO_152000 := n1_; have BK149 := n2_; have BK150 := n3_; have BK151 := n4_; have BK154 := n5_; have HB := n6_; clear n0_ n1_ n2_ n3_ n4_ n5_ n6_; obtain ⟨hcz55_0, hcz55_1, hcz55_2, hcz55_3, hcz55_4⟩ := zc5 BK154; obtain ⟨hfz55_0, hfz55_1, hfz55_2, hfz55_3, hfz55_4⟩ := zf5 BK154) | ((with_reducible refine gate_builtin (b := .append) (xs := #[.tmp 38, .tmp 44]) rfl ?_); at_builtin; refine Kd.R_append k53 (w0 := w) w.heap.size rfl (.tmp 38) (.tmp 44) 51 53 (.agg #[(.int .i64 0), (.int .i64 0), (.int .i64 0), (.int .i64 0), (.string ⟨#[]⟩)]) 48 rfl Tryz.underlying51 info53 rfl (by decide) (by omega) u7 x7_2 (⟨(rd_T48 (rd_L7 l0_0 x18_1) x28_2).f0, (⟨(rd_T48 (rd_L7 l0_0 x18_1) x28_2).f1.f0, (rd_T48 (rd_L7 l0_0 x18_1) x28_2).f1.f1, (rd_T48 (rd_L7 l0_0 x18_1) x28_2).f1.f2, (rd_T48 (rd_L7 l0_0 x18_1) x28_2).f1.f3⟩ : S41)⟩ : S53) [.int .i64 ((rd_T48 (rd_L7 l0_0 x18_1) x28_2).f0), .int .i64 ((rd_T48 (rd_L7 l0_0 x18_1) x28_2).f1.f0), .int .i64 ((rd_T48 (rd_L7 l0_0 x18_1) x28_2).f1.f1), .int .i64 ((rd_T48 (rd_L7 l0_0 x18_1) x28_2).f1.f2), .string ((rd_T48 (rd_L7 l0_0 x18_1) x28_2).f1.f3)] (fun _ => True) (fun _ => False) rfl rfl ?aP (fun _ hk => hk.elim) ?aF ?aO ?aB ?aS ?aL ?_; (case aP => exact k53_mkM _ _ _ (⟨(rd_T48 (rd_L7 l0_0 x18_1) x28_2).f0, (⟨(rd_T48 (rd_L7 l0_0 x18_1) x28_2).f1.f0, (rd_T48 (rd_L7 l0_0 x18_1) x28_2).f1.f1, (rd_T48 (rd_L7 l0_0 x18_1) x28_2).f1.f2, (rd_T48 (rd_L7 l0_0 x18_1) x28_2).f1.f3⟩ : S41)⟩ : S53)); (case aB => exact (zB HB)); (case aF => exact (fun _ _ => trivial)); (case aO => exact (by (with_reducible repeat (first | apply Kd.R_alloc | apply Kd.R_drewN | apply Kd.R_drew)); exact HO_7.out)); (case aS => exact (below_size (zB HB))); (case aL => have := LMc48.out; omega); intro v156 w56 ho hb hg hat; rw [← Ny155.out] at ho; have n0_ := Aside0.mk (Kd.S_after (ok := (fun _ => True)) (by (with_reducible repeat (first | apply Kd.S_alloc | apply Kd.S_drewN | apply Kd.S_drew)); exact Kd.S_mono HO_152000.out (fun _ hk => ⟨trivial, hk⟩)) hg hat); have n1_ := Aside0.mk (blk_grown (g := gb149) (o := .cells #[.slice (some ad152) l0_0.length c0_0] 25 (0, 0)) (by (with_reducible repeat (first | refine blk_drewN ?_ _ | refine blk_drew ?_ | refine blk_alloc ?_ _)); exact BK149.out) hg (Kd.R_ne HO_7.out BK149.out (by decide))); have n2_ := Aside0.mk (blk_grown (g := gb150) (o := .cells #[.slice none 0 0] 31 (0, 0)) (by (with_reducible repeat (first | refine blk_drewN ?_ _ | refine blk_drew ?_ | refine blk_alloc ?_ _)); exact BK150.out) hg (Kd.R_ne HO_7.out BK150.out (by decide))); have n3_ := Aside0.mk (blk_grown (g := gb151) (o := .cells #[u152000] 31 (0, 0)) (by (with_reducible repeat (first | refine blk_drewN ?_ _ | refine blk_drew ?_ | refine blk_alloc ?_ _)); exact BK151.out) hg (Kd.R_ne HO_7.out BK151.out (by decide))); have n4_ := Aside0.mk (blk_grown (g := gb154) (o := .cells #[.int .i64 ((rd_T48 (rd_L7 l0_0 x18_1) x28_2).f0), .int .i64 ((rd_T48 (rd_L7 l0_0 x18_1) x28_2).f1.f0), .int .i64 ((rd_T48 (rd_L7 l0_0 x18_1) x28_2).f1.f1), .int .i64 ((rd_T48 (rd_L7 l0_0 x18_1) x28_2).f1.f2), .string ((rd_T48 (rd_L7 l0_0 x18_1) x28_2).f1.f3)] 48 (0, 0)) (by (with_reducible repeat (first | refine blk_drewN ?_ _ | refine blk_drew ?_ | refine blk_alloc ?_ _)); exact BK154.out) hg (Kd.R_ne HO_7.out BK154.out (by decide))); have n5_ := Aside0.mk (hb); have n6_ := Aside0.mk (ho); clear HO_152000; clear BK149; clear BK150; clear BK151; clear BK154; clear HB; clear HO_7; have HO_152000 := n0_; have BK149 := n1_; have BK150 := n2_; have BK151 := n3_; have BK154 := n4_; have HB := n5_; have HO157 := n6_; clear n0_ n1_ n2_ n3_ n4_ n5_ n6_; clear ho hb hg hat))
                              go_roundg k2
                              case measure => have := HK1.out; have := HK2.out; omega
                              case rel => exact ⟨(y155), (wrap64 (x28_2 + 1)), (by first | rfl | (simp; done) | (simp [*]; done)), H', ⟨by have := HK1.out; have := HK2.out; omega⟩, ⟨by (with_reducible repeat (first | apply Kd.R_alloc | apply Kd.R_drewN | apply Kd.R_drew)); exact HO157.out⟩, ⟨by (with_reducible repeat (first | apply Kd.S_alloc | apply Kd.S_drewN | apply Kd.S_drew)); exact Kd.S_mono HO_152000.out (fun _ hk => hk.2)⟩, ⟨by (with_reducible repeat (first | refine blk_drewN ?_ _ | refine blk_drew ?_ | refine blk_alloc ?_ _)); exact BK149.out⟩, ⟨by (with_reducible repeat (first | refine blk_drewN ?_ _ | refine blk_drew ?_ | refine blk_alloc ?_ _)); exact BK150.out⟩, ⟨by (with_reducible repeat (first | refine blk_drewN ?_ _ | refine blk_drew ?_ | refine blk_alloc ?_ _)); exact BK151.out⟩, ⟨zB HB⟩⟩
                            · rw [if_neg c48] at H
                              exact absurd H (by simp)
                        · rw [if_neg c32] at H
                          exact absurd H (by simp)
                      · rw [if_neg c31] at H
                        exact absurd H (by simp)
                    · rw [if_neg c30] at H
                      have c30b0 : decide (x28_2 < ((rd_L7 l0_0 x18_1).length : Int)) = false := decide_eq_false c30
                      clear c30
                      by_cases c57 : x152000_1.length < 5864062014805
                      · rw [if_pos c57] at H
                        have LMc57 := Aside0.mk c57
                        clear c57
                        obtain ⟨y158, hy158⟩ : ∃ y_ : List (List (S53)), y_ = (x152000_1 ++ [x7_2]) := ⟨_, rfl⟩
                        replace H : (slipwaylaw02_plain.l0 k2 l0_0 (l0_0.length : Int) (wrap64 (x18_1 + 1)) y158) = some (r1, r2) := by first | (rw [hy158]; with_reducible exact H) | (have H2_ := (Option.bind_some _ _).symm.trans H; rw [hy158]; with_reducible exact H2_) | (have H2_ := (Option.bind_some _ _).symm.trans H; with_reducible exact H2_) | with_reducible exact H | (rw [hy158]; exact H) | exact H
                        have Ny158 := Aside0.mk hy158
                        clear hy158
                        have H' := Aside0.mk H
                        clear H
                        have hnb58 := NB151_149.out
                        have hnc58 := NB149_151.out
                        have hnb59 := NB151_150.out
                        have hnc59 := NB150_151.out
                        have hcz60_0 := zc1 BK151
                        have hfz60_0 := zf1 BK151
                        obtain ⟨Ao62, co62, eo62⟩ := Kd.R_slice HO_7.out
                        subst eo62
                        go_wp2_with (first | ((with_reducible refine gate_builtin (b := .append) (xs := #[.tmp 48, .tmp 50]) rfl ?_); at_builtin; refine Kd.S_append (Kd.slice 53 k53) (w0 := w) w.heap.size rfl (.tmp 48) (.tmp 50) 29 51 (.slice none 0 0) 24 rfl Tryz.underlying29 info51 rfl (by decide) (by omega) u152000 x152000_1 x7_2 [.slice Ao62 x7_2.length co62] (fun _ => True) (fun k_ => some k_ = (.slice Ao62 x7_2.length co62 : Value).ownBlock) rfl rfl ?aP (fun k_ hk_ => ((Kd.R_mono (ok' := fun k_ => ((fun _ => True)) k_ ∧ some k_ ≠ (u152000 : Value).ownBlock) (Kd.R_apart' (HO_7.out) (Kd.S_typed HO_152000.out) (by decide)) (fun k_ hk => ⟨trivial, hk.2⟩))).1 k_ hk_.symm) ?aF ?aO ?aB ?aS ?aL ?_; (case aP => exact Kd.M_row (Kd.R_mono (Kd.R_tight rfl (Kd.R_mono (ok' := fun k_ => ((fun _ => True)) k_ ∧ some k_ ≠ (u152000 : Value).ownBlock) (Kd.R_apart' (HO_7.out) (Kd.S_typed HO_152000.out) (by decide)) (fun k_ hk => ⟨trivial, hk.2⟩))) (fun _ h_ => h_))); (case aB => exact (zB HB)); (case aF => exact (fun _ _ => trivial)); (case aO => exact (by (with_reducible repeat (first | apply Kd.S_alloc | apply Kd.S_drewN | apply Kd.S_drew)); exact Kd.S_mono HO_152000.out (fun k_ hk => ⟨trivial, fun e_ => hk e_⟩))); (case aS => exact (below_size (zB HB))); (case aL => have := LMc57.out; omega); intro v159 w61 ho hb hg hat; rw [← Ny158.out] at ho; have n0_ := Aside0.mk (blk_grown (g := gb149) (o := .cells #[.slice (some ad152) l0_0.length c0_0] 25 (0, 0)) (by (with_reducible repeat (first | refine blk_drewN ?_ _ | refine blk_drew ?_ | refine blk_alloc ?_ _)); exact BK149.out) hg (Kd.S_ne HO_152000.out BK149.out (by decide))); have n1_ := Aside0.mk (blk_grown (g := gb150) (o := .cells #[.slice none 0 0] 31 (0, 0)) (by (with_reducible repeat (first | refine blk_drewN ?_ _ | refine blk_drew ?_ | refine blk_alloc ?_ _)); exact BK150.out) hg (Kd.S_ne HO_152000.out BK150.out (by decide))); have n2_ := Aside0.mk (blk_grown (g := gb151) (o := .cells #[u152000] 31 (0, 0)) (by (with_reducible repeat (first | refine blk_drewN ?_ _ | refine blk_drew ?_ | refine blk_alloc ?_ _)); exact BK151.out) hg (Kd.S_ne HO_152000.out BK151.out (by decide))); have n3_ := Aside0.mk (hb); have n4_ := Aside0.mk (ho); clear BK149; clear BK150; clear BK151; clear HB; clear HO_152000; clear HO_7; have BK149 := n0_; have BK150 := n1_; have BK151 := n2_; have HB := n3_; have HO160 := n4_; clear n0_ n1_ n2_ n3_ n4_; clear ho hb hg hat; obtain ⟨Ao63, co63, eo63⟩ := Kd.S_slice HO160.out; subst eo63; have hcz64_0 := zc1 BK151; have hfz64_0 := zf1 BK151) | ((with_reducible refine gate_store (t := 29) (p := 52) rfl ?_); refine store_event (t := 29) (p := 52) (v := ?vo_w65) (w1 := (w61.setCell ⟨gb151, 0, none⟩ (.slice Ao63 y158.length co63))) ?hg ?ho ?hn ?hr ?_; (case ho => rfl); (case hg => rfl); (case hn => rfl); (case hr => first | (go_simp; done) | (go_simp; rfl)); intro w65 hw; have n0_ : Aside0 (Kd.S (Kd.slice 53 k53) 51 w65 w.heap.size (fun _ => True) (.slice Ao63 y158.length co63) y158) := ⟨(by rw [hw]; exact (by (with_reducible repeat (first | apply Kd.S_alloc | apply Kd.S_drewN | apply Kd.S_drew)); exact Kd.S_mono (Kd.S_far (p := ⟨gb151, 0, none⟩) (Kd.S_types HO160.out BK151.out (by decide)) (fun _ hk => hk.2) (.slice Ao63 y158.length co63)) (fun _ hk => trivial)))⟩; have n1_ := zw BK149 hw; have n2_ := zw BK150 hw; have n3_ : Aside0 (w65.heap[gb151]? = some (.cells #[.slice Ao63 y158.length co63] 31 (0, 0))) := ⟨(by rw [hw]; exact (by refine blk_put (cs := #[u152000]) ?_ 0 _ rfl; (with_reducible repeat (first | refine blk_drewN ?_ _ | refine blk_drew ?_ | refine blk_alloc ?_ _)); exact BK151.out))⟩; have n4_ := zu HB hw; clear hw; clear HO160; clear BK149; clear BK150; clear BK151; clear HB; have HO160 := n0_; have BK149 := n1_; have BK150 := n2_; have BK151 := n3_; have HB := n4_; clear n0_ n1_ n2_ n3_ n4_))
                        go_roundg k2
                        case measure => have := HK1.out; have := HK2.out; omega
                        case rel => exact ⟨(wrap64 (x18_1 + 1)), (y158), (.slice Ao63 y158.length co63), (by first | rfl | (simp; done) | (simp [*]; done)), H', ⟨by have := HK1.out; have := HK2.out; omega⟩, ⟨by (with_reducible repeat (first | apply Kd.S_alloc | apply Kd.S_drewN | apply Kd.S_drew)); exact HO160.out⟩, ⟨by (with_reducible repeat (first | refine blk_drewN ?_ _ | refine blk_drew ?_ | refine blk_alloc ?_ _)); exact BK149.out⟩, ⟨by (with_reducible repeat (first | refine blk_drewN ?_ _ | refine blk_drew ?_ | refine blk_alloc ?_ _)); exact BK150.out⟩, ⟨by (with_reducible repeat (first | refine blk_drewN ?_ _ | refine blk_drew ?_ | refine blk_alloc ?_ _)); exact BK151.out⟩, ⟨zB HB⟩⟩
                      · rw [if_neg c57] at H
                        exact absurd H (by simp)
            · rw [if_neg c21] at H
              exact absurd H (by simp)
          · rw [if_neg c20] at H
            exact absurd H (by simp)
        · rw [if_neg c19] at H
          have c19b0 : decide (x18_1 < (l0_0.length : Int)) = false := decide_eq_false c19
          clear c19
          simp only [Option.some.injEq, Prod.mk.injEq] at H
          obtain ⟨rfl, rfl⟩ := H
          have hnb66 := NB151_149.out
          have hnc66 := NB149_151.out
          have hnb67 := NB151_150.out
          have hnc67 := NB150_151.out
          have hcz68_0 := zc1 BK151
          have hfz68_0 := zf1 BK151
          obtain ⟨Ao69, co69, eo69⟩ := Kd.S_slice HO_152000.out
          subst eo69
          have hnb70 := NB150_149.out
          have hnc70 := NB149_150.out
          have hcz71_0 := zc1 BK150
          have hfz71_0 := zf1 BK150
          go_wp2_with (first | ((with_reducible refine gate_store (t := 31) (p := 2) rfl ?_); refine store_event (t := 31) (p := 2) (v := ?vo_w72) (w1 := (wr.setCell ⟨gb150, 0, none⟩ (.slice Ao69 x152000_1.length co69))) ?hg ?ho ?hn ?hr ?_; (case ho => rfl); (case hg => rfl); (case hn => rfl); (case hr => first | (go_simp; done) | (go_simp; rfl)); intro w72 hw; have n0_ : Aside0 (Kd.S (Kd.slice 53 k53) 51 w72 w.heap.size (fun _ => True) (.slice Ao69 x152000_1.length co69) x152000_1) := ⟨(by rw [hw]; exact (by (with_reducible repeat (first | apply Kd.S_alloc | apply Kd.S_drewN | apply Kd.S_drew)); exact Kd.S_mono (Kd.S_far (p := ⟨gb150, 0, none⟩) (Kd.S_types HO_152000.out BK150.out (by decide)) (fun _ hk => hk.2) (.slice Ao69 x152000_1.length co69)) (fun _ hk => trivial)))⟩; have n1_ := zw BK149 hw; have n2_ : Aside0 (w72.heap[gb150]? = some (.cells #[.slice Ao69 x152000_1.length co69] 31 (0, 0))) := ⟨(by rw [hw]; exact (by refine blk_put (cs := #[.slice none 0 0]) ?_ 0 _ rfl; (with_reducible repeat (first | refine blk_drewN ?_ _ | refine blk_drew ?_ | refine blk_alloc ?_ _)); exact BK150.out))⟩; have n3_ := zw BK151 hw; have n4_ := zu HB hw; clear hw; clear HO_152000; clear BK149; clear BK150; clear BK151; clear HB; have HO_152000 := n0_; have BK149 := n1_; have BK150 := n2_; have BK151 := n3_; have HB := n4_; clear n0_ n1_ n2_ n3_ n4_))
          refine bodyPost_ret (results_ct rfl _ _ gb150 31 #[.slice Ao69 x152000_1.length co69] (0, 0) _ rfl (by (with_reducible repeat (first | refine blk_drewN ?_ _ | refine blk_drew ?_ | refine blk_alloc ?_ _)); exact BK150.out) Tryz.underlying31 rfl (by kernel_rfl)) rfl ?_
          exact ⟨_, by first | rfl | (simp [errW_none, errW_some] <;> rfl) | (simp [*, errW_none, errW_some] <;> rfl), by (with_reducible repeat (first | apply Kd.S_alloc | apply Kd.S_drewN | apply Kd.S_drew)); exact HO_152000.out, zB HB⟩


end Go.Proofs.YtckeeefeiljamaaGreatDoor.PRan
