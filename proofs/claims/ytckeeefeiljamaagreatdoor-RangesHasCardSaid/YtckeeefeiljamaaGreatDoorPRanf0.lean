-- Written by a program of this session (wip/pgiven.py) out of the translation: functions as the program has them, with their proofs.
import Derived.Test.YtckeeefeiljamaaGreatDoorXG
import Derived.Test.YtckeeefeiljamaaGreatDoorXJ
import Derived.Test.YtckeeefeiljamaaGreatDoorPRanx1
namespace Go.Proofs.YtckeeefeiljamaaGreatDoor.PRan
open Go.RowKit Go.Proofs.YtckeeefeiljamaaGreatDoorW.PrintWords Go.Proofs.YtckeeefeiljamaaGreatDoorW.PrintLast Go.Proofs.YtckeeefeiljamaaGreatDoorW.PrintMore
attribute [local go_sem] max2_int min2_int max_two min_two max_three min_three max_four min_four   -- for this text's walks alone
set_option linter.unusedVariables false
set_option linter.unusedSimpArgs false

attribute [local go_sem high] eqA41
/-! ### slipwayref02_Range_Right: function 22 -/
mutual
def slipwayref02_Range_Right.j0 : Nat → Bool → List (List (S53)) → Option (Bool)
  | 0, _, _ => none
  | k + 1, x16, x102000 => if x16 = true then (some false) else (slipwayref02_Range_Right.l0 k 0 x102000)
def slipwayref02_Range_Right.l0 : Nat → Int → List (List (S53)) → Option (Bool)
  | 0, _, _ => none
  | k + 1, x3, x102000 => if x3 < (x102000.length : Int) then (if 0 ≤ x3 then (if ((rd_L4 x102000 x3).length : Int) < 1 then (slipwayref02_Range_Right.j2 k x3 true x102000) else (slipwayref02_Range_Right.j2 k x3 (decide (((rd_L4 x102000 x3).length : Int) > 8)) x102000)) else (none)) else (some true)
def slipwayref02_Range_Right.j2 : Nat → Int → Bool → List (List (S53)) → Option (Bool)
  | 0, _, _, _ => none
  | k + 1, x3, x39, x102000 => if x39 = true then (some false) else (slipwayref02_Range_Right.l1 k x3 0 x102000)
def slipwayref02_Range_Right.l1 : Nat → Int → Int → List (List (S53)) → Option (Bool)
  | 0, _, _, _ => none
  | k + 1, x3, x4, x102000 => if 0 ≤ x3 then (if x3 < (x102000.length : Int) then (if x4 < ((rd_L4 x102000 x3).length : Int) then (if 0 ≤ x4 then (if ((rd_T53 (rd_L4 x102000 x3) x4).f0) < 0 then (some false) else (if ((rd_T53 (rd_L4 x102000 x3) x4).f0) > 7 then (some false) else (if ((rd_T53 (rd_L4 x102000 x3) x4).f0) = 0 then (if (!(((rd_T53 (rd_L4 x102000 x3) x4).f1.f0) == 0) || (!(((rd_T53 (rd_L4 x102000 x3) x4).f1.f1) == 0) || (!(((rd_T53 (rd_L4 x102000 x3) x4).f1.f2) == 0) || (!((((rd_T53 (rd_L4 x102000 x3) x4).f1.f3).toList) == ([] : List UInt8)))))) = true then (some false) else ((slipwayref01_Version_Right.f ((rd_T53 (rd_L4 x102000 x3) x4).f1.f0) ((rd_T53 (rd_L4 x102000 x3) x4).f1.f1) ((rd_T53 (rd_L4 x102000 x3) x4).f1.f2) ((rd_T53 (rd_L4 x102000 x3) x4).f1.f3)).bind fun t109 => (if t109 = true then (slipwayref02_Range_Right.l1 k x3 (wrap64 (x4 + 1)) x102000) else (some false)))) else ((slipwayref01_Version_Right.f ((rd_T53 (rd_L4 x102000 x3) x4).f1.f0) ((rd_T53 (rd_L4 x102000 x3) x4).f1.f1) ((rd_T53 (rd_L4 x102000 x3) x4).f1.f2) ((rd_T53 (rd_L4 x102000 x3) x4).f1.f3)).bind fun t110 => (if t110 = true then (slipwayref02_Range_Right.l1 k x3 (wrap64 (x4 + 1)) x102000) else (some false)))))) else (none)) else (slipwayref02_Range_Right.l0 k (wrap64 (x3 + 1)) x102000)) else (none)) else (none)
end
def slipwayref02_Range_Right.f (k : Nat) (l0_0 : List (List (S53))) : Option (Bool) := if (l0_0.length : Int) < 1 then (slipwayref02_Range_Right.j0 k true l0_0) else (slipwayref02_Range_Right.j0 k (decide ((l0_0.length : Int) > 8)) l0_0)
theorem slipwayref02_Range_Right.mono_l : ∀ k, (∀ y0 y1, LeO (slipwayref02_Range_Right.j0 k y0 y1) (slipwayref02_Range_Right.j0 (k + 1) y0 y1)) ∧ (∀ y0 y1, LeO (slipwayref02_Range_Right.l0 k y0 y1) (slipwayref02_Range_Right.l0 (k + 1) y0 y1)) ∧ (∀ y0 y1 y2, LeO (slipwayref02_Range_Right.j2 k y0 y1 y2) (slipwayref02_Range_Right.j2 (k + 1) y0 y1 y2)) ∧ (∀ y0 y1 y2, LeO (slipwayref02_Range_Right.l1 k y0 y1 y2) (slipwayref02_Range_Right.l1 (k + 1) y0 y1 y2))
  | 0 => ⟨fun _ _ r h => by simp [slipwayref02_Range_Right.j0] at h, fun _ _ r h => by simp [slipwayref02_Range_Right.l0] at h, fun _ _ _ r h => by simp [slipwayref02_Range_Right.j2] at h, fun _ _ _ r h => by simp [slipwayref02_Range_Right.l1] at h⟩
  | k + 1 => by
    obtain ⟨ih0, ih1, ih2, ih3⟩ := slipwayref02_Range_Right.mono_l k
    refine ⟨?_, ?_, ?_, ?_⟩
    · intro y0 y1
      unfold slipwayref02_Range_Right.j0
      repeat' first
      | (with_reducible exact ih0 _ _)
      | (with_reducible exact ih1 _ _)
      | (with_reducible exact ih2 _ _ _)
      | (with_reducible exact ih3 _ _ _)
      | (with_reducible exact LeO.refl _)
      | (with_reducible exact LeO.none _)
      | (with_reducible refine LeO.ite ?_ ?_)
      | (with_reducible refine LeO.bind ?_ (fun _ => ?_))
      | exact ih0 _ _
      | exact ih1 _ _
      | exact ih2 _ _ _
      | exact ih3 _ _ _
      | exact LeO.none _
      | refine LeO.ite ?_ ?_
      | refine LeO.bind ?_ (fun _ => ?_)
    · intro y0 y1
      unfold slipwayref02_Range_Right.l0
      repeat' first
      | (with_reducible exact ih0 _ _)
      | (with_reducible exact ih1 _ _)
      | (with_reducible exact ih2 _ _ _)
      | (with_reducible exact ih3 _ _ _)
      | (with_reducible exact LeO.refl _)
      | (with_reducible exact LeO.none _)
      | (with_reducible refine LeO.ite ?_ ?_)
      | (with_reducible refine LeO.bind ?_ (fun _ => ?_))
      | exact ih0 _ _
      | exact ih1 _ _
      | exact ih2 _ _ _
      | exact ih3 _ _ _
      | exact LeO.none _
      | refine LeO.ite ?_ ?_
      | refine LeO.bind ?_ (fun _ => ?_)
    · intro y0 y1 y2
      unfold slipwayref02_Range_Right.j2
      repeat' first
      | (with_reducible exact ih0 _ _)
      | (with_reducible exact ih1 _ _)
      | (with_reducible exact ih2 _ _ _)
      | (with_reducible exact ih3 _ _ _)
      | (with_reducible exact LeO.refl _)
      | (with_reducible exact LeO.none _)
      | (with_reducible refine LeO.ite ?_ ?_)
      | (with_reducible refine LeO.bind ?_ (fun _ => ?_))
      | exact ih0 _ _
      | exact ih1 _ _
      | exact ih2 _ _ _
      | exact ih3 _ _ _
      | exact LeO.none _
      | refine LeO.ite ?_ ?_
      | refine LeO.bind ?_ (fun _ => ?_)
    · intro y0 y1 y2
      unfold slipwayref02_Range_Right.l1
      repeat' first
      | (with_reducible exact ih0 _ _)
      | (with_reducible exact ih1 _ _)
      | (with_reducible exact ih2 _ _ _)
      | (with_reducible exact ih3 _ _ _)
      | (with_reducible exact LeO.refl _)
      | (with_reducible exact LeO.none _)
      | (with_reducible refine LeO.ite ?_ ?_)
      | (with_reducible refine LeO.bind ?_ (fun _ => ?_))
      | exact ih0 _ _
      | exact ih1 _ _
      | exact ih2 _ _ _
      | exact ih3 _ _ _
      | exact LeO.none _
      | refine LeO.ite ?_ ?_
      | refine LeO.bind ?_ (fun _ => ?_)
theorem slipwayref02_Range_Right.mono : ∀ a0 k, LeO (slipwayref02_Range_Right.f k a0) (slipwayref02_Range_Right.f (k + 1) a0) := by
  intro a0 k
  obtain ⟨ih0, ih1, ih2, ih3⟩ := slipwayref02_Range_Right.mono_l k
  unfold slipwayref02_Range_Right.f
  repeat' first
      | (with_reducible exact ih0 _ _)
      | (with_reducible exact ih1 _ _)
      | (with_reducible exact ih2 _ _ _)
      | (with_reducible exact ih3 _ _ _)
      | (with_reducible exact LeO.refl _)
      | (with_reducible exact LeO.none _)
      | (with_reducible refine LeO.ite ?_ ?_)
      | (with_reducible refine LeO.bind ?_ (fun _ => ?_))
      | exact ih0 _ _
      | exact ih1 _ _
      | exact ih2 _ _ _
      | exact ih3 _ _ _
      | exact LeO.none _
      | refine LeO.ite ?_ ?_
      | refine LeO.bind ?_ (fun _ => ?_)
set_option maxHeartbeats 8000000 in
set_option maxRecDepth 100000 in
theorem slipwayref02_Range_Right.calls (k : Nat) (A0_0 : Option Addr) (c0_0 : Nat) (l0_0 : List (List (S53))) (r : Bool) (w : World) (hr0_0 : Kd.C (Kd.slice 53 k53) w A0_0 l0_0.length l0_0) (hc0_0 : l0_0.length ≤ c0_0) (h : slipwayref02_Range_Right.f k l0_0 = some r) :
    Calls Tryz.prog 22 #[.agg #[.slice A0_0 l0_0.length c0_0]] w fun e w' => e = .returned (.bool r) ∧ Below w.heap.size w w' := by
  have hu31 := Tryz.underlying31
  have hu53 := Tryz.underlying53
  have hu41 := Tryz.underlying41
  have HR0_0 := Aside0.mk hr0_0
  have HC0_0 := Aside0.mk hc0_0
  clear hr0_0 hc0_0
  have HB := Aside0.mk (Below.refl w.heap.size w)
  have H : (if (l0_0.length : Int) < 1 then (slipwayref02_Range_Right.j0 k true l0_0) else (slipwayref02_Range_Right.j0 k (decide ((l0_0.length : Int) > 8)) l0_0)) = some r := h
  clear h
  have HC2 := Aside0.mk H
  clear H
  go_enter Tryz.func22, Tryz.ntmps22
  go_upto_region 1 with (first | ((with_reducible refine gate_dst (N := 1) rfl ?_); (try (refine gate_guard (by rfl) ?_; dsimp only)); refine box_event ?hg (N := 1) ?hd (cs := #[.slice A0_0 l0_0.length c0_0]) (t := 31) ?hr ?_; (case hd => rfl); (case hg => rfl); (case hr => first | (go_simp; done) | (go_simp; rfl)); intro gb101 hg w3 hbox hb; have n0_ := zs HB hb; have n1_ := Aside0.mk (hbox); have n2_ := zz HB hg; have n3_ := zz HB hg; clear HB; have HB := n0_; have BK101 := n1_; have GW101 := n2_; have GE101 := n3_; clear n0_ n1_ n2_ n3_; clear hb hbox hg))
  (try simp only [Act.put, List.setIfInBounds_toArray, List.set_cons_zero, List.set_cons_succ])
  go_cut [16] (fun v16 wc => ∃ (kq : Nat) (x16_1 : Bool), v16 = .bool x16_1 ∧ Aside0 (slipwayref02_Range_Right.j0 kq x16_1 l0_0 = some r) ∧ Aside0 (kq ≤ k) ∧ Aside0 (wc.heap[gb101]? = some (.cells #[(.slice A0_0 l0_0.length c0_0)] 31 (0, 0))) ∧ Aside0 (Below w.heap.size w wc))
  case first =>
    have H := HC2.out
    clear HC2
    by_cases c4 : (l0_0.length : Int) < 1
    · rw [if_pos c4] at H
      have c4b0 : decide ((l0_0.length : Int) < 1) = true := decide_eq_true c4
      have c4b1 : decide (l0_0.length < 1) = true := decide_eq_true (by omega)
      clear c4
      (first | rw [c4b0] | (simp only [i64_w, i32_w]; rw [c4b0]) | skip)
      have H' := Aside0.mk H
      clear H
      have hcz5_0 := zc1 BK101
      have hfz5_0 := zf1 BK101
      go_wp2
      go_meet
      case rel => exact ⟨_, (true), (by first | rfl | (simp; done) | (simp [*]; done)), H', ⟨by first | omega | exact Nat.le_refl _⟩, ⟨by (with_reducible repeat (first | refine blk_drewN ?_ _ | refine blk_drew ?_ | refine blk_alloc ?_ _)); exact BK101.out⟩, ⟨zB HB⟩⟩
    · rw [if_neg c4] at H
      have c4b0 : decide ((l0_0.length : Int) < 1) = false := decide_eq_false c4
      have c4b1 : decide (l0_0.length < 1) = false := decide_eq_false (by omega)
      clear c4
      (first | rw [c4b0] | (simp only [i64_w, i32_w]; rw [c4b0]) | skip)
      have H' := Aside0.mk H
      clear H
      have hcz6_0 := zc1 BK101
      have hfz6_0 := zf1 BK101
      go_wp2
      go_meet
      case rel => exact ⟨_, (decide ((l0_0.length : Int) > 8)), (by first | rfl | (simp; done) | (simp [*]; done)), H', ⟨by first | omega | exact Nat.le_refl _⟩, ⟨by (with_reducible repeat (first | refine blk_drewN ?_ _ | refine blk_drew ?_ | refine blk_alloc ?_ _)); exact BK101.out⟩, ⟨zB HB⟩⟩
  case rest =>
    clear HC2
    try clear c2
    try clear p2
    try clear c4
    try clear c4b0
    try clear c4b1
    try clear hcz5_0
    try clear hcz6_0
    try clear hfz5_0
    try clear hfz6_0
    obtain ⟨kq, x16_1, rfl, HA, HJ1, BK101, HB⟩ := hcut
    cases kq with
    | zero => exact absurd HA.out (by simp [slipwayref02_Range_Right.j0])
    | succ kj1 =>
      have H := HA.out
      clear HA
      simp only [slipwayref02_Range_Right.j0] at H
      by_cases c7 : x16_1 = true
      · subst c7
        have H1 : (some false) = some r := by rw [if_pos rfl] at H; exact H
        clear H
        have H := H1
        clear H1
        obtain rfl := Option.some.inj H
        go_wp2
        go_ret
        exact ⟨by first | rfl | (simp [errW_none, errW_some] <;> rfl) | (simp [*, errW_none, errW_some] <;> rfl), zB HB⟩
      · replace c7 := Bool.eq_false_iff.mpr c7
        subst c7
        have H1 : (slipwayref02_Range_Right.l0 kj1 0 l0_0) = some r := by rw [if_neg (show ¬ (false = true) by decide)] at H; exact H
        clear H
        have H := H1
        clear H1
        have H' := Aside0.mk H
        clear H
        go_wp2
        go_loopg [3] kj1 (fun kq v3 w' => ∃ (x3_2 : Int), v3 = .int .i64 x3_2 ∧ Aside0 (slipwayref02_Range_Right.l0 kq x3_2 l0_0 = some r) ∧ Aside0 (kq ≤ kj1) ∧ Aside0 (w'.heap[gb101]? = some (.cells #[(.slice A0_0 l0_0.length c0_0)] 31 (0, 0))) ∧ Aside0 (Below w.heap.size w w'))
        case atStart => exact ⟨(0), (by first | rfl | (simp; done) | (simp [*]; done)), H', ⟨Nat.le_refl _⟩, ⟨by (with_reducible repeat (first | refine blk_drewN ?_ _ | refine blk_drew ?_ | refine blk_alloc ?_ _)); exact BK101.out⟩, ⟨zB HB⟩⟩
        case round =>
          clear H'
          try clear c2
          try clear p2
          try clear c4
          try clear c4b0
          try clear c4b1
          try clear c7
          try clear hcz5_0
          try clear hcz6_0
          try clear hfz5_0
          try clear hfz6_0
          try clear p2
          obtain ⟨x3_2, rfl, HA, HK2, BK101, HB⟩ := hrel
          cases gk with
          | zero => exact absurd HA.out (by simp [slipwayref02_Range_Right.l0])
          | succ k2 =>
            have H := HA.out
            clear HA
            simp only [slipwayref02_Range_Right.l0] at H
            by_cases c8 : x3_2 < (l0_0.length : Int)
            · rw [if_pos c8] at H
              have c8b0 : decide (x3_2 < (l0_0.length : Int)) = true := decide_eq_true c8
              clear c8
              have HC9 := Aside0.mk H
              clear H
              have hcz10_0 := zc1 BK101
              have hfz10_0 := zf1 BK101
              go_upto_region 6 with (fail)
              go_cut [39] (fun v39 wc => ∃ (kq : Nat) (x39_8 : Bool), v39 = .bool x39_8 ∧ Aside0 (slipwayref02_Range_Right.j2 kq x3_2 x39_8 l0_0 = some r) ∧ Aside0 (kq ≤ k2) ∧ Aside0 (wc.heap[gb101]? = some (.cells #[(.slice A0_0 l0_0.length c0_0)] 31 (0, 0))) ∧ Aside0 (Below w.heap.size w wc))
              case first =>
                have H := HC9.out
                clear HC9
                by_cases c11 : 0 ≤ x3_2
                · rw [if_pos c11] at H
                  have c11b0 : decide (0 ≤ x3_2) = true := decide_eq_true c11
                  clear c11
                  (first | rw [c11b0] | (simp only [i64_w, i32_w]; rw [c11b0]) | skip)
                  by_cases c12 : ((rd_L4 l0_0 x3_2).length : Int) < 1
                  · rw [if_pos c12] at H
                    have c12b0 : decide (((rd_L4 l0_0 x3_2).length : Int) < 1) = true := decide_eq_true c12
                    have c12b1 : decide ((rd_L4 l0_0 x3_2).length < 1) = true := decide_eq_true (by omega)
                    clear c12
                    have H' := Aside0.mk H
                    clear H
                    have hcz13_0 := zc1 BK101
                    have hfz13_0 := zf1 BK101
                    have p102 : 0 ≤ (x3_2 : Int) := of_decide_eq_true (by first | (with_reducible assumption) | assumption)
                    have q102 : x3_2 < (l0_0.length : Int) := of_decide_eq_true (by first | (with_reducible assumption) | assumption)
                    obtain ⟨ad102, A102_0, c102_0, e102, hx102_0, hl102_0, hi102_0⟩ := at_L4 HR0_0.out x3_2 p102 q102
                    cases e102
                    replace hx102_0 := (HB.out.cell (World.block_lt_of_cell? w _ hx102_0)).trans hx102_0
                    have HR102_0 := Aside0.mk hi102_0
                    have HC102_0 := Aside0.mk hl102_0
                    clear hi102_0 hl102_0
                    replace p102 := eq_true p102
                    replace q102 := eq_true q102
                    go_wp2
                    go_meet
                    case rel => exact ⟨_, (true), (by first | rfl | (simp; done) | (simp [*]; done)), H', ⟨by have := HJ1.out; have := HK2.out; first | omega | exact Nat.le_refl _⟩, ⟨by (with_reducible repeat (first | refine blk_drewN ?_ _ | refine blk_drew ?_ | refine blk_alloc ?_ _)); exact BK101.out⟩, ⟨zB HB⟩⟩
                  · rw [if_neg c12] at H
                    have c12b0 : decide (((rd_L4 l0_0 x3_2).length : Int) < 1) = false := decide_eq_false c12
                    have c12b1 : decide ((rd_L4 l0_0 x3_2).length < 1) = false := decide_eq_false (by omega)
                    clear c12
                    have H' := Aside0.mk H
                    clear H
                    have hcz14_0 := zc1 BK101
                    have hfz14_0 := zf1 BK101
                    have p102 : 0 ≤ (x3_2 : Int) := of_decide_eq_true (by first | (with_reducible assumption) | assumption)
                    have q102 : x3_2 < (l0_0.length : Int) := of_decide_eq_true (by first | (with_reducible assumption) | assumption)
                    obtain ⟨ad102, A102_0, c102_0, e102, hx102_0, hl102_0, hi102_0⟩ := at_L4 HR0_0.out x3_2 p102 q102
                    cases e102
                    replace hx102_0 := (HB.out.cell (World.block_lt_of_cell? w _ hx102_0)).trans hx102_0
                    have HR102_0 := Aside0.mk hi102_0
                    have HC102_0 := Aside0.mk hl102_0
                    clear hi102_0 hl102_0
                    replace p102 := eq_true p102
                    replace q102 := eq_true q102
                    have p103 : 0 ≤ (x3_2 : Int) := of_decide_eq_true (by first | (with_reducible assumption) | assumption)
                    have q103 : x3_2 < (l0_0.length : Int) := of_decide_eq_true (by first | (with_reducible assumption) | assumption)
                    obtain ⟨ad103, A103_0, c103_0, e103, hx103_0, hl103_0, hi103_0⟩ := at_L4 HR0_0.out x3_2 p103 q103
                    obtain rfl : ad102 = ad103 := (by injection e103)
                    replace hx103_0 := (HB.out.cell (World.block_lt_of_cell? w _ hx103_0)).trans hx103_0
                    have HR103_0 := Aside0.mk hi103_0
                    have HC103_0 := Aside0.mk hl103_0
                    clear hi103_0 hl103_0
                    replace p103 := eq_true p103
                    replace q103 := eq_true q103
                    have ea_ := Option.some.inj (hx102_0.symm.trans hx103_0)
                    injection ea_ with ea_ en_ ec_
                    subst ea_
                    subst ec_
                    clear en_
                    go_wp2
                    go_meet
                    case rel => exact ⟨_, (decide (((rd_L4 l0_0 x3_2).length : Int) > 8)), (by first | rfl | (simp; done) | (simp [*]; done)), H', ⟨by have := HJ1.out; have := HK2.out; first | omega | exact Nat.le_refl _⟩, ⟨by (with_reducible repeat (first | refine blk_drewN ?_ _ | refine blk_drew ?_ | refine blk_alloc ?_ _)); exact BK101.out⟩, ⟨zB HB⟩⟩
                · rw [if_neg c11] at H
                  exact absurd H (by simp)
              case rest =>
                clear HC9
                try clear c1
                try clear p1
                try clear q1
                try clear hx1
                try clear c2
                try clear p2
                try clear c4
                try clear c4b0
                try clear c4b1
                try clear c7
                try clear c8
                try clear c8b0
                try clear c10
                try clear p10
                try clear q10
                try clear hx10
                try clear c11
                try clear c11b0
                try clear c12
                try clear c12b0
                try clear c12b1
                try clear hcz10_0
                try clear hcz13_0
                try clear hcz14_0
                try clear hcz5_0
                try clear hcz6_0
                try clear hfz10_0
                try clear hfz13_0
                try clear hfz14_0
                try clear hfz5_0
                try clear hfz6_0
                try clear hx102_0
                try clear hx103_0
                try clear p102
                try clear p103
                try clear p2
                try clear q102
                try clear q103
                obtain ⟨kq, x39_8, rfl, HA, HJ8, BK101, HB⟩ := hcut
                cases kq with
                | zero => exact absurd HA.out (by simp [slipwayref02_Range_Right.j2])
                | succ kj8 =>
                  have H := HA.out
                  clear HA
                  simp only [slipwayref02_Range_Right.j2] at H
                  by_cases c15 : x39_8 = true
                  · subst c15
                    have H1 : (some false) = some r := by rw [if_pos rfl] at H; exact H
                    clear H
                    have H := H1
                    clear H1
                    obtain rfl := Option.some.inj H
                    go_wp2
                    go_ret
                    exact ⟨by first | rfl | (simp [errW_none, errW_some] <;> rfl) | (simp [*, errW_none, errW_some] <;> rfl), zB HB⟩
                  · replace c15 := Bool.eq_false_iff.mpr c15
                    subst c15
                    have H1 : (slipwayref02_Range_Right.l1 kj8 x3_2 0 l0_0) = some r := by rw [if_neg (show ¬ (false = true) by decide)] at H; exact H
                    clear H
                    have H := H1
                    clear H1
                    have H' := Aside0.mk H
                    clear H
                    go_wp2
                    go_loopg [4] kj8 (fun kq v4 w' => ∃ (x4_4 : Int), v4 = .int .i64 x4_4 ∧ Aside0 (slipwayref02_Range_Right.l1 kq x3_2 x4_4 l0_0 = some r) ∧ Aside0 (kq ≤ kj8) ∧ Aside0 (w'.heap[gb101]? = some (.cells #[(.slice A0_0 l0_0.length c0_0)] 31 (0, 0))) ∧ Aside0 (Below w.heap.size w w'))
                    case atStart => exact ⟨(0), (by first | rfl | (simp; done) | (simp [*]; done)), H', ⟨Nat.le_refl _⟩, ⟨by (with_reducible repeat (first | refine blk_drewN ?_ _ | refine blk_drew ?_ | refine blk_alloc ?_ _)); exact BK101.out⟩, ⟨zB HB⟩⟩
                    case round =>
                      clear H'
                      try clear c1
                      try clear p1
                      try clear q1
                      try clear hx1
                      try clear c2
                      try clear p2
                      try clear c4
                      try clear c4b0
                      try clear c4b1
                      try clear c7
                      try clear c8
                      try clear c8b0
                      try clear c10
                      try clear p10
                      try clear q10
                      try clear hx10
                      try clear c11
                      try clear c11b0
                      try clear c12
                      try clear c12b0
                      try clear c12b1
                      try clear c15
                      try clear hcz10_0
                      try clear hcz13_0
                      try clear hcz14_0
                      try clear hcz5_0
                      try clear hcz6_0
                      try clear hfz10_0
                      try clear hfz13_0
                      try clear hfz14_0
                      try clear hfz5_0
                      try clear hfz6_0
                      try clear hx102_0
                      try clear hx103_0
                      try clear p1
                      try clear p10
                      try clear p102
                      try clear p103
                      try clear p2
                      try clear q1
                      try clear q10
                      try clear q102
                      try clear q103
                      obtain ⟨x4_4, rfl, HA, HK4, BK101, HB⟩ := hrel
                      cases gk with
                      | zero => exact absurd HA.out (by simp [slipwayref02_Range_Right.l1])
                      | succ k4 =>
                        have H := HA.out
                        clear HA
                        simp only [slipwayref02_Range_Right.l1] at H
                        by_cases c16 : 0 ≤ x3_2
                        · rw [if_pos c16] at H
                          have c16b0 : decide (0 ≤ x3_2) = true := decide_eq_true c16
                          clear c16
                          by_cases c17 : x3_2 < (l0_0.length : Int)
                          · rw [if_pos c17] at H
                            have c17b0 : decide (x3_2 < (l0_0.length : Int)) = true := decide_eq_true c17
                            clear c17
                            by_cases c18 : x4_4 < ((rd_L4 l0_0 x3_2).length : Int)
                            · rw [if_pos c18] at H
                              have c18b0 : decide (x4_4 < ((rd_L4 l0_0 x3_2).length : Int)) = true := decide_eq_true c18
                              clear c18
                              by_cases c19 : 0 ≤ x4_4
                              · rw [if_pos c19] at H
                                have c19b0 : decide (0 ≤ x4_4) = true := decide_eq_true c19
                                clear c19
                                by_cases c20 : ((rd_T53 (rd_L4 l0_0 x3_2) x4_4).f0) < 0
                                · rw [if_pos c20] at H
                                  have c20b0 : decide (((rd_T53 (rd_L4 l0_0 x3_2) x4_4).f0) < 0) = true := decide_eq_true c20
                                  clear c20
                                  obtain rfl := Option.some.inj H
                                  have hcz21_0 := zc1 BK101
                                  have hfz21_0 := zf1 BK101
                                  have p104 : 0 ≤ (x3_2 : Int) := of_decide_eq_true (by first | (with_reducible assumption) | assumption)
                                  have q104 : x3_2 < (l0_0.length : Int) := of_decide_eq_true (by first | (with_reducible assumption) | assumption)
                                  obtain ⟨ad104, A104_0, c104_0, e104, hx104_0, hl104_0, hi104_0⟩ := at_L4 HR0_0.out x3_2 p104 q104
                                  cases e104
                                  replace hx104_0 := (HB.out.cell (World.block_lt_of_cell? w _ hx104_0)).trans hx104_0
                                  have HR104_0 := Aside0.mk hi104_0
                                  have HC104_0 := Aside0.mk hl104_0
                                  clear hi104_0 hl104_0
                                  replace p104 := eq_true p104
                                  replace q104 := eq_true q104
                                  have p105 : 0 ≤ (x3_2 : Int) := of_decide_eq_true (by first | (with_reducible assumption) | assumption)
                                  have q105 : x3_2 < (l0_0.length : Int) := of_decide_eq_true (by first | (with_reducible assumption) | assumption)
                                  obtain ⟨ad105, A105_0, c105_0, e105, hx105_0, hl105_0, hi105_0⟩ := at_L4 HR0_0.out x3_2 p105 q105
                                  obtain rfl : ad104 = ad105 := (by injection e105)
                                  replace hx105_0 := (HB.out.cell (World.block_lt_of_cell? w _ hx105_0)).trans hx105_0
                                  have HR105_0 := Aside0.mk hi105_0
                                  have HC105_0 := Aside0.mk hl105_0
                                  clear hi105_0 hl105_0
                                  replace p105 := eq_true p105
                                  replace q105 := eq_true q105
                                  have ea_ := Option.some.inj (hx104_0.symm.trans hx105_0)
                                  injection ea_ with ea_ en_ ec_
                                  subst ea_
                                  subst ec_
                                  clear en_
                                  have p106 : 0 ≤ (x4_4 : Int) := of_decide_eq_true (by first | (with_reducible assumption) | assumption)
                                  have q106 : x4_4 < ((rd_L4 l0_0 x3_2).length : Int) := of_decide_eq_true (by first | (with_reducible assumption) | assumption)
                                  obtain ⟨ad106, e106, hx106_0, hx106_1, hx106_2, hx106_3, hx106_4⟩ := at_T53 HR105_0.out x4_4 p106 q106
                                  cases e106
                                  replace hx106_0 := (HB.out.cell (World.block_lt_of_cell? w _ hx106_0)).trans hx106_0
                                  replace hx106_1 := (HB.out.cell (World.block_lt_of_cell? w _ hx106_1)).trans hx106_1
                                  replace hx106_2 := (HB.out.cell (World.block_lt_of_cell? w _ hx106_2)).trans hx106_2
                                  replace hx106_3 := (HB.out.cell (World.block_lt_of_cell? w _ hx106_3)).trans hx106_3
                                  replace hx106_4 := (HB.out.cell (World.block_lt_of_cell? w _ hx106_4)).trans hx106_4
                                  replace p106 := eq_true p106
                                  replace q106 := eq_true q106
                                  go_wp2_with (first | ((with_reducible refine gate_dst (N := 5) rfl ?_); (try (refine gate_guard (by rfl) ?_; dsimp only)); refine box_event ?hg (N := 5) ?hd (cs := #[.int .i64 0, .int .i64 0, .int .i64 0, .int .i64 0, .string (⟨#[]⟩ : ByteArray)]) (t := 53) ?hr ?_; (case hd => rfl); (case hg => rfl); (case hr => first | (go_simp; done) | (go_simp; rfl)); intro gb107 hg w22 hbox hb; have n0_ := zb BK101 hb; have n1_ := zs HB hb; have n2_ := Aside0.mk (hbox); have n3_ := zz HB hg; have n4_ := zz HB hg; have n5_ := zn BK101 hg; have n6_ := zm BK101 hg; clear BK101; clear HB; have BK101 := n0_; have HB := n1_; have BK107 := n2_; have GW107 := n3_; have GE107 := n4_; have NB101_107 := n5_; have NB107_101 := n6_; clear n0_ n1_ n2_ n3_ n4_ n5_ n6_; clear hb hbox hg; have hnb23 := NB107_101.out; have hnc23 := NB101_107.out; obtain ⟨hcz24_0, hcz24_1, hcz24_2, hcz24_3, hcz24_4⟩ := zc5 BK107; obtain ⟨hfz24_0, hfz24_1, hfz24_2, hfz24_3, hfz24_4⟩ := zf5 BK107) | ((with_reducible refine gate_store (t := 53) (p := 5) rfl ?_); refine store_event (t := 53) (p := 5) (v := ?vo_w25) (w1 := (((((w22.setCell ⟨gb107, 0, none⟩ (.int .i64 ((rd_T53 (rd_L4 l0_0 x3_2) x4_4).f0))).setCell ⟨gb107, 1, none⟩ (.int .i64 ((rd_T53 (rd_L4 l0_0 x3_2) x4_4).f1.f0))).setCell ⟨gb107, 2, none⟩ (.int .i64 ((rd_T53 (rd_L4 l0_0 x3_2) x4_4).f1.f1))).setCell ⟨gb107, 3, none⟩ (.int .i64 ((rd_T53 (rd_L4 l0_0 x3_2) x4_4).f1.f2))).setCell ⟨gb107, 4, none⟩ (.string ((rd_T53 (rd_L4 l0_0 x3_2) x4_4).f1.f3)))) ?hg ?ho ?hn ?hr ?_; (case ho => rfl); (case hg => rfl); (case hn => rfl); (case hr => first | (go_simp; done) | (go_simp; rfl)); intro w25 hw; have n0_ := zw BK101 hw; have n1_ : Aside0 (w25.heap[gb107]? = some (.cells #[.int .i64 ((rd_T53 (rd_L4 l0_0 x3_2) x4_4).f0), .int .i64 ((rd_T53 (rd_L4 l0_0 x3_2) x4_4).f1.f0), .int .i64 ((rd_T53 (rd_L4 l0_0 x3_2) x4_4).f1.f1), .int .i64 ((rd_T53 (rd_L4 l0_0 x3_2) x4_4).f1.f2), .string ((rd_T53 (rd_L4 l0_0 x3_2) x4_4).f1.f3)] 53 (0, 0))) := ⟨(by rw [hw]; exact (by refine blk_put (cs := #[.int .i64 ((rd_T53 (rd_L4 l0_0 x3_2) x4_4).f0), .int .i64 ((rd_T53 (rd_L4 l0_0 x3_2) x4_4).f1.f0), .int .i64 ((rd_T53 (rd_L4 l0_0 x3_2) x4_4).f1.f1), .int .i64 ((rd_T53 (rd_L4 l0_0 x3_2) x4_4).f1.f2), .string (⟨#[]⟩ : ByteArray)]) ?_ 4 _ rfl; refine blk_put (cs := #[.int .i64 ((rd_T53 (rd_L4 l0_0 x3_2) x4_4).f0), .int .i64 ((rd_T53 (rd_L4 l0_0 x3_2) x4_4).f1.f0), .int .i64 ((rd_T53 (rd_L4 l0_0 x3_2) x4_4).f1.f1), .int .i64 0, .string (⟨#[]⟩ : ByteArray)]) ?_ 3 _ rfl; refine blk_put (cs := #[.int .i64 ((rd_T53 (rd_L4 l0_0 x3_2) x4_4).f0), .int .i64 ((rd_T53 (rd_L4 l0_0 x3_2) x4_4).f1.f0), .int .i64 0, .int .i64 0, .string (⟨#[]⟩ : ByteArray)]) ?_ 2 _ rfl; refine blk_put (cs := #[.int .i64 ((rd_T53 (rd_L4 l0_0 x3_2) x4_4).f0), .int .i64 0, .int .i64 0, .int .i64 0, .string (⟨#[]⟩ : ByteArray)]) ?_ 1 _ rfl; refine blk_put (cs := #[.int .i64 0, .int .i64 0, .int .i64 0, .int .i64 0, .string (⟨#[]⟩ : ByteArray)]) ?_ 0 _ rfl; (with_reducible repeat (first | refine blk_drewN ?_ _ | refine blk_drew ?_ | refine blk_alloc ?_ _)); exact BK107.out))⟩; have n2_ := zu HB hw; clear hw; clear BK101; clear BK107; clear HB; have BK101 := n0_; have BK107 := n1_; have HB := n2_; clear n0_ n1_ n2_) | ((with_reducible refine gate_dst (N := 6) rfl ?_); (try (refine gate_guard (by rfl) ?_; dsimp only)); refine box_event ?hg (N := 6) ?hd (cs := #[.int .i64 0, .int .i64 0, .int .i64 0, .string (⟨#[]⟩ : ByteArray)]) (t := 41) ?hr ?_; (case hd => rfl); (case hg => rfl); (case hr => first | (go_simp; done) | (go_simp; rfl)); intro gb108 hg w26 hbox hb; have n0_ := zb BK101 hb; have n1_ := zb BK107 hb; have n2_ := zs HB hb; have n3_ := Aside0.mk (hbox); have n4_ := zz HB hg; have n5_ := zz HB hg; have n6_ := zn BK101 hg; have n7_ := zm BK101 hg; have n8_ := zn BK107 hg; have n9_ := zm BK107 hg; clear BK101; clear BK107; clear HB; have BK101 := n0_; have BK107 := n1_; have HB := n2_; have BK108 := n3_; have GW108 := n4_; have GE108 := n5_; have NB101_108 := n6_; have NB108_101 := n7_; have NB107_108 := n8_; have NB108_107 := n9_; clear n0_ n1_ n2_ n3_ n4_ n5_ n6_ n7_ n8_ n9_; clear hb hbox hg; have hnb27 := NB108_101.out; have hnc27 := NB101_108.out; have hnb28 := NB108_107.out; have hnc28 := NB107_108.out; obtain ⟨hcz29_0, hcz29_1, hcz29_2, hcz29_3⟩ := zc4 BK108; obtain ⟨hfz29_0, hfz29_1, hfz29_2, hfz29_3⟩ := zf4 BK108) | ((with_reducible refine gate_store (t := 41) (p := 6) rfl ?_); refine store_event (t := 41) (p := 6) (v := ?vo_w30) (w1 := ((((w26.setCell ⟨gb108, 0, none⟩ (.int .i64 0)).setCell ⟨gb108, 1, none⟩ (.int .i64 0)).setCell ⟨gb108, 2, none⟩ (.int .i64 0)).setCell ⟨gb108, 3, none⟩ (.string (⟨#[]⟩ : ByteArray)))) ?hg ?ho ?hn ?hr ?_; (case ho => rfl); (case hg => rfl); (case hn => rfl); (case hr => first | (go_simp; done) | (go_simp; rfl)); intro w30 hw; have n0_ := zw BK101 hw; have n1_ := zw BK107 hw; have n2_ : Aside0 (w30.heap[gb108]? = some (.cells #[.int .i64 0, .int .i64 0, .int .i64 0, .string (⟨#[]⟩ : ByteArray)] 41 (0, 0))) := ⟨(by rw [hw]; exact (by refine blk_put (cs := #[.int .i64 0, .int .i64 0, .int .i64 0, .string (⟨#[]⟩ : ByteArray)]) ?_ 3 _ rfl; refine blk_put (cs := #[.int .i64 0, .int .i64 0, .int .i64 0, .string (⟨#[]⟩ : ByteArray)]) ?_ 2 _ rfl; refine blk_put (cs := #[.int .i64 0, .int .i64 0, .int .i64 0, .string (⟨#[]⟩ : ByteArray)]) ?_ 1 _ rfl; refine blk_put (cs := #[.int .i64 0, .int .i64 0, .int .i64 0, .string (⟨#[]⟩ : ByteArray)]) ?_ 0 _ rfl; (with_reducible repeat (first | refine blk_drewN ?_ _ | refine blk_drew ?_ | refine blk_alloc ?_ _)); exact BK108.out))⟩; have n3_ := zu HB hw; clear hw; clear BK101; clear BK107; clear BK108; clear HB; have BK101 := n0_; have BK107 := n1_; have BK108 := n2_; have HB := n3_; clear n0_ n1_ n2_ n3_; obtain ⟨hcz31_0, hcz31_1, hcz31_2, hcz31_3, hcz31_4⟩ := zc5 BK107; obtain ⟨hfz31_0, hfz31_1, hfz31_2, hfz31_3, hfz31_4⟩ := zf5 BK107))
                                  go_ret
                                  exact ⟨by first | rfl | (simp [errW_none, errW_some] <;> rfl) | (simp [*, errW_none, errW_some] <;> rfl), zB HB⟩
                                · rw [if_neg c20] at H
                                  have c20b0 : decide (((rd_T53 (rd_L4 l0_0 x3_2) x4_4).f0) < 0) = false := decide_eq_false c20
                                  clear c20
                                  by_cases c32 : ((rd_T53 (rd_L4 l0_0 x3_2) x4_4).f0) > 7
                                  · rw [if_pos c32] at H
                                    have c32b0 : decide (7 < ((rd_T53 (rd_L4 l0_0 x3_2) x4_4).f0)) = true := decide_eq_true c32
                                    clear c32
                                    obtain rfl := Option.some.inj H
                                    have hcz33_0 := zc1 BK101
                                    have hfz33_0 := zf1 BK101
                                    have p104 : 0 ≤ (x3_2 : Int) := of_decide_eq_true (by first | (with_reducible assumption) | assumption)
                                    have q104 : x3_2 < (l0_0.length : Int) := of_decide_eq_true (by first | (with_reducible assumption) | assumption)
                                    obtain ⟨ad104, A104_0, c104_0, e104, hx104_0, hl104_0, hi104_0⟩ := at_L4 HR0_0.out x3_2 p104 q104
                                    cases e104
                                    replace hx104_0 := (HB.out.cell (World.block_lt_of_cell? w _ hx104_0)).trans hx104_0
                                    have HR104_0 := Aside0.mk hi104_0
                                    have HC104_0 := Aside0.mk hl104_0
                                    clear hi104_0 hl104_0
                                    replace p104 := eq_true p104
                                    replace q104 := eq_true q104
                                    have p105 : 0 ≤ (x3_2 : Int) := of_decide_eq_true (by first | (with_reducible assumption) | assumption)
                                    have q105 : x3_2 < (l0_0.length : Int) := of_decide_eq_true (by first | (with_reducible assumption) | assumption)
                                    obtain ⟨ad105, A105_0, c105_0, e105, hx105_0, hl105_0, hi105_0⟩ := at_L4 HR0_0.out x3_2 p105 q105
                                    obtain rfl : ad104 = ad105 := (by injection e105)
                                    replace hx105_0 := (HB.out.cell (World.block_lt_of_cell? w _ hx105_0)).trans hx105_0
                                    have HR105_0 := Aside0.mk hi105_0
                                    have HC105_0 := Aside0.mk hl105_0
                                    clear hi105_0 hl105_0
                                    replace p105 := eq_true p105
                                    replace q105 := eq_true q105
                                    have ea_ := Option.some.inj (hx104_0.symm.trans hx105_0)
                                    injection ea_ with ea_ en_ ec_
                                    subst ea_
                                    subst ec_
                                    clear en_
                                    have p106 : 0 ≤ (x4_4 : Int) := of_decide_eq_true (by first | (with_reducible assumption) | assumption)
                                    have q106 : x4_4 < ((rd_L4 l0_0 x3_2).length : Int) := of_decide_eq_true (by first | (with_reducible assumption) | assumption)
                                    obtain ⟨ad106, e106, hx106_0, hx106_1, hx106_2, hx106_3, hx106_4⟩ := at_T53 HR105_0.out x4_4 p106 q106
                                    cases e106
                                    replace hx106_0 := (HB.out.cell (World.block_lt_of_cell? w _ hx106_0)).trans hx106_0
                                    replace hx106_1 := (HB.out.cell (World.block_lt_of_cell? w _ hx106_1)).trans hx106_1
                                    replace hx106_2 := (HB.out.cell (World.block_lt_of_cell? w _ hx106_2)).trans hx106_2
                                    replace hx106_3 := (HB.out.cell (World.block_lt_of_cell? w _ hx106_3)).trans hx106_3
                                    replace hx106_4 := (HB.out.cell (World.block_lt_of_cell? w _ hx106_4)).trans hx106_4
                                    replace p106 := eq_true p106
                                    replace q106 := eq_true q106
                                    go_wp2_with (first | ((with_reducible refine gate_dst (N := 5) rfl ?_); (try (refine gate_guard (by rfl) ?_; dsimp only)); refine box_event ?hg (N := 5) ?hd (cs := #[.int .i64 0, .int .i64 0, .int .i64 0, .int .i64 0, .string (⟨#[]⟩ : ByteArray)]) (t := 53) ?hr ?_; (case hd => rfl); (case hg => rfl); (case hr => first | (go_simp; done) | (go_simp; rfl)); intro gb107 hg w34 hbox hb; have n0_ := zb BK101 hb; have n1_ := zs HB hb; have n2_ := Aside0.mk (hbox); have n3_ := zz HB hg; have n4_ := zz HB hg; have n5_ := zn BK101 hg; have n6_ := zm BK101 hg; clear BK101; clear HB; have BK101 := n0_; have HB := n1_; have BK107 := n2_; have GW107 := n3_; have GE107 := n4_; have NB101_107 := n5_; have NB107_101 := n6_; clear n0_ n1_ n2_ n3_ n4_ n5_ n6_; clear hb hbox hg; have hnb35 := NB107_101.out; have hnc35 := NB101_107.out; obtain ⟨hcz36_0, hcz36_1, hcz36_2, hcz36_3, hcz36_4⟩ := zc5 BK107; obtain ⟨hfz36_0, hfz36_1, hfz36_2, hfz36_3, hfz36_4⟩ := zf5 BK107) | ((with_reducible refine gate_store (t := 53) (p := 5) rfl ?_); refine store_event (t := 53) (p := 5) (v := ?vo_w37) (w1 := (((((w34.setCell ⟨gb107, 0, none⟩ (.int .i64 ((rd_T53 (rd_L4 l0_0 x3_2) x4_4).f0))).setCell ⟨gb107, 1, none⟩ (.int .i64 ((rd_T53 (rd_L4 l0_0 x3_2) x4_4).f1.f0))).setCell ⟨gb107, 2, none⟩ (.int .i64 ((rd_T53 (rd_L4 l0_0 x3_2) x4_4).f1.f1))).setCell ⟨gb107, 3, none⟩ (.int .i64 ((rd_T53 (rd_L4 l0_0 x3_2) x4_4).f1.f2))).setCell ⟨gb107, 4, none⟩ (.string ((rd_T53 (rd_L4 l0_0 x3_2) x4_4).f1.f3)))) ?hg ?ho ?hn ?hr ?_; (case ho => rfl); (case hg => rfl); (case hn => rfl); (case hr => first | (go_simp; done) | (go_simp; rfl)); intro w37 hw; have n0_ := zw BK101 hw; have n1_ : Aside0 (w37.heap[gb107]? = some (.cells #[.int .i64 ((rd_T53 (rd_L4 l0_0 x3_2) x4_4).f0), .int .i64 ((rd_T53 (rd_L4 l0_0 x3_2) x4_4).f1.f0), .int .i64 ((rd_T53 (rd_L4 l0_0 x3_2) x4_4).f1.f1), .int .i64 ((rd_T53 (rd_L4 l0_0 x3_2) x4_4).f1.f2), .string ((rd_T53 (rd_L4 l0_0 x3_2) x4_4).f1.f3)] 53 (0, 0))) := ⟨(by rw [hw]; exact (by refine blk_put (cs := #[.int .i64 ((rd_T53 (rd_L4 l0_0 x3_2) x4_4).f0), .int .i64 ((rd_T53 (rd_L4 l0_0 x3_2) x4_4).f1.f0), .int .i64 ((rd_T53 (rd_L4 l0_0 x3_2) x4_4).f1.f1), .int .i64 ((rd_T53 (rd_L4 l0_0 x3_2) x4_4).f1.f2), .string (⟨#[]⟩ : ByteArray)]) ?_ 4 _ rfl; refine blk_put (cs := #[.int .i64 ((rd_T53 (rd_L4 l0_0 x3_2) x4_4).f0), .int .i64 ((rd_T53 (rd_L4 l0_0 x3_2) x4_4).f1.f0), .int .i64 ((rd_T53 (rd_L4 l0_0 x3_2) x4_4).f1.f1), .int .i64 0, .string (⟨#[]⟩ : ByteArray)]) ?_ 3 _ rfl; refine blk_put (cs := #[.int .i64 ((rd_T53 (rd_L4 l0_0 x3_2) x4_4).f0), .int .i64 ((rd_T53 (rd_L4 l0_0 x3_2) x4_4).f1.f0), .int .i64 0, .int .i64 0, .string (⟨#[]⟩ : ByteArray)]) ?_ 2 _ rfl; refine blk_put (cs := #[.int .i64 ((rd_T53 (rd_L4 l0_0 x3_2) x4_4).f0), .int .i64 0, .int .i64 0, .int .i64 0, .string (⟨#[]⟩ : ByteArray)]) ?_ 1 _ rfl; refine blk_put (cs := #[.int .i64 0, .int .i64 0, .int .i64 0, .int .i64 0, .string (⟨#[]⟩ : ByteArray)]) ?_ 0 _ rfl; (with_reducible repeat (first | refine blk_drewN ?_ _ | refine blk_drew ?_ | refine blk_alloc ?_ _)); exact BK107.out))⟩; have n2_ := zu HB hw; clear hw; clear BK101; clear BK107; clear HB; have BK101 := n0_; have BK107 := n1_; have HB := n2_; clear n0_ n1_ n2_) | ((with_reducible refine gate_dst (N := 6) rfl ?_); (try (refine gate_guard (by rfl) ?_; dsimp only)); refine box_event ?hg (N := 6) ?hd (cs := #[.int .i64 0, .int .i64 0, .int .i64 0, .string (⟨#[]⟩ : ByteArray)]) (t := 41) ?hr ?_; (case hd => rfl); (case hg => rfl); (case hr => first | (go_simp; done) | (go_simp; rfl)); intro gb108 hg w38 hbox hb; have n0_ := zb BK101 hb; have n1_ := zb BK107 hb; have n2_ := zs HB hb; have n3_ := Aside0.mk (hbox); have n4_ := zz HB hg; have n5_ := zz HB hg; have n6_ := zn BK101 hg; have n7_ := zm BK101 hg; have n8_ := zn BK107 hg; have n9_ := zm BK107 hg; clear BK101; clear BK107; clear HB; have BK101 := n0_; have BK107 := n1_; have HB := n2_; have BK108 := n3_; have GW108 := n4_; have GE108 := n5_; have NB101_108 := n6_; have NB108_101 := n7_; have NB107_108 := n8_; have NB108_107 := n9_; clear n0_ n1_ n2_ n3_ n4_ n5_ n6_ n7_ n8_ n9_; clear hb hbox hg; have hnb39 := NB108_101.out; have hnc39 := NB101_108.out; have hnb40 := NB108_107.out; have hnc40 := NB107_108.out; obtain ⟨hcz41_0, hcz41_1, hcz41_2, hcz41_3⟩ := zc4 BK108; obtain ⟨hfz41_0, hfz41_1, hfz41_2, hfz41_3⟩ := zf4 BK108) | ((with_reducible refine gate_store (t := 41) (p := 6) rfl ?_); refine store_event (t := 41) (p := 6) (v := ?vo_w42) (w1 := ((((w38.setCell ⟨gb108, 0, none⟩ (.int .i64 0)).setCell ⟨gb108, 1, none⟩ (.int .i64 0)).setCell ⟨gb108, 2, none⟩ (.int .i64 0)).setCell ⟨gb108, 3, none⟩ (.string (⟨#[]⟩ : ByteArray)))) ?hg ?ho ?hn ?hr ?_; (case ho => rfl); (case hg => rfl); (case hn => rfl); (case hr => first | (go_simp; done) | (go_simp; rfl)); intro w42 hw; have n0_ := zw BK101 hw; have n1_ := zw BK107 hw; have n2_ : Aside0 (w42.heap[gb108]? = some (.cells #[.int .i64 0, .int .i64 0, .int .i64 0, .string (⟨#[]⟩ : ByteArray)] 41 (0, 0))) := ⟨(by rw [hw]; exact (by refine blk_put (cs := #[.int .i64 0, .int .i64 0, .int .i64 0, .string (⟨#[]⟩ : ByteArray)]) ?_ 3 _ rfl; refine blk_put (cs := #[.int .i64 0, .int .i64 0, .int .i64 0, .string (⟨#[]⟩ : ByteArray)]) ?_ 2 _ rfl; refine blk_put (cs := #[.int .i64 0, .int .i64 0, .int .i64 0, .string (⟨#[]⟩ : ByteArray)]) ?_ 1 _ rfl; refine blk_put (cs := #[.int .i64 0, .int .i64 0, .int .i64 0, .string (⟨#[]⟩ : ByteArray)]) ?_ 0 _ rfl; (with_reducible repeat (first | refine blk_drewN ?_ _ | refine blk_drew ?_ | refine blk_alloc ?_ _)); exact BK108.out))⟩; have n3_ := zu HB hw; clear hw; clear BK101; clear BK107; clear BK108; clear HB; have BK101 := n0_; have BK107 := n1_; have BK108 := n2_; have HB := n3_; clear n0_ n1_ n2_ n3_; obtain ⟨hcz43_0, hcz43_1, hcz43_2, hcz43_3, hcz43_4⟩ := zc5 BK107; obtain ⟨hfz43_0, hfz43_1, hfz43_2, hfz43_3, hfz43_4⟩ := zf5 BK107))
                                    go_ret
                                    exact ⟨by first | rfl | (simp [errW_none, errW_some] <;> rfl) | (simp [*, errW_none, errW_some] <;> rfl), zB HB⟩
                                  · rw [if_neg c32] at H
                                    have c32b0 : decide (7 < ((rd_T53 (rd_L4 l0_0 x3_2) x4_4).f0)) = false := decide_eq_false c32
                                    clear c32
                                    by_cases c44 : ((rd_T53 (rd_L4 l0_0 x3_2) x4_4).f0) = 0
                                    · rw [if_pos c44] at H
                                      have c44b0 : (((rd_T53 (rd_L4 l0_0 x3_2) x4_4).f0) == 0) = true := beq_iff_eq.mpr c44
                                      have c44b1 : (((rd_T53 (rd_L4 l0_0 x3_2) x4_4).f0) != 0) = false := bne_eq_false_iff_eq.mpr c44
                                      clear c44
                                      by_cases c45 : (!(((rd_T53 (rd_L4 l0_0 x3_2) x4_4).f1.f0) == 0) || (!(((rd_T53 (rd_L4 l0_0 x3_2) x4_4).f1.f1) == 0) || (!(((rd_T53 (rd_L4 l0_0 x3_2) x4_4).f1.f2) == 0) || (!((((rd_T53 (rd_L4 l0_0 x3_2) x4_4).f1.f3).toList) == ([] : List UInt8)))))) = true
                                      · rw [if_pos c45] at H
                                        have c45b0 : (!(((rd_T53 (rd_L4 l0_0 x3_2) x4_4).f1.f0) == 0) || (!(((rd_T53 (rd_L4 l0_0 x3_2) x4_4).f1.f1) == 0) || (!(((rd_T53 (rd_L4 l0_0 x3_2) x4_4).f1.f2) == 0) || (!((((rd_T53 (rd_L4 l0_0 x3_2) x4_4).f1.f3).toList) == ([] : List UInt8)))))) = true := c45
                                        have c45p0 : (((rd_T53 (rd_L4 l0_0 x3_2) x4_4).f1.f0) = 0 ∧ ((rd_T53 (rd_L4 l0_0 x3_2) x4_4).f1.f1) = 0 ∧ ((rd_T53 (rd_L4 l0_0 x3_2) x4_4).f1.f2) = 0 ∧ (((rd_T53 (rd_L4 l0_0 x3_2) x4_4).f1.f3).toList) = ([] : List UInt8)) = False := eq_false (by rintro ⟨h0_, h1_, h2_, h3_⟩; simp [h0_, h1_, h2_, h3_] at c45b0)
                                        have c45p1 : (¬(((rd_T53 (rd_L4 l0_0 x3_2) x4_4).f1.f0) = 0) ∨ ¬(((rd_T53 (rd_L4 l0_0 x3_2) x4_4).f1.f1) = 0) ∨ ¬(((rd_T53 (rd_L4 l0_0 x3_2) x4_4).f1.f2) = 0) ∨ ¬((((rd_T53 (rd_L4 l0_0 x3_2) x4_4).f1.f3).toList) = ([] : List UInt8))) = True := eq_true (by simpa using c45b0)
                                        clear c45b0
                                        clear c45
                                        obtain rfl := Option.some.inj H
                                        have hcz46_0 := zc1 BK101
                                        have hfz46_0 := zf1 BK101
                                        have p104 : 0 ≤ (x3_2 : Int) := of_decide_eq_true (by first | (with_reducible assumption) | assumption)
                                        have q104 : x3_2 < (l0_0.length : Int) := of_decide_eq_true (by first | (with_reducible assumption) | assumption)
                                        obtain ⟨ad104, A104_0, c104_0, e104, hx104_0, hl104_0, hi104_0⟩ := at_L4 HR0_0.out x3_2 p104 q104
                                        cases e104
                                        replace hx104_0 := (HB.out.cell (World.block_lt_of_cell? w _ hx104_0)).trans hx104_0
                                        have HR104_0 := Aside0.mk hi104_0
                                        have HC104_0 := Aside0.mk hl104_0
                                        clear hi104_0 hl104_0
                                        replace p104 := eq_true p104
                                        replace q104 := eq_true q104
                                        have p105 : 0 ≤ (x3_2 : Int) := of_decide_eq_true (by first | (with_reducible assumption) | assumption)
                                        have q105 : x3_2 < (l0_0.length : Int) := of_decide_eq_true (by first | (with_reducible assumption) | assumption)
                                        obtain ⟨ad105, A105_0, c105_0, e105, hx105_0, hl105_0, hi105_0⟩ := at_L4 HR0_0.out x3_2 p105 q105
                                        obtain rfl : ad104 = ad105 := (by injection e105)
                                        replace hx105_0 := (HB.out.cell (World.block_lt_of_cell? w _ hx105_0)).trans hx105_0
                                        have HR105_0 := Aside0.mk hi105_0
                                        have HC105_0 := Aside0.mk hl105_0
                                        clear hi105_0 hl105_0
                                        replace p105 := eq_true p105
                                        replace q105 := eq_true q105
                                        have ea_ := Option.some.inj (hx104_0.symm.trans hx105_0)
                                        injection ea_ with ea_ en_ ec_
                                        subst ea_
                                        subst ec_
                                        clear en_
                                        have p106 : 0 ≤ (x4_4 : Int) := of_decide_eq_true (by first | (with_reducible assumption) | assumption)
                                        have q106 : x4_4 < ((rd_L4 l0_0 x3_2).length : Int) := of_decide_eq_true (by first | (with_reducible assumption) | assumption)
                                        obtain ⟨ad106, e106, hx106_0, hx106_1, hx106_2, hx106_3, hx106_4⟩ := at_T53 HR105_0.out x4_4 p106 q106
                                        cases e106
                                        replace hx106_0 := (HB.out.cell (World.block_lt_of_cell? w _ hx106_0)).trans hx106_0
                                        replace hx106_1 := (HB.out.cell (World.block_lt_of_cell? w _ hx106_1)).trans hx106_1
                                        replace hx106_2 := (HB.out.cell (World.block_lt_of_cell? w _ hx106_2)).trans hx106_2
                                        replace hx106_3 := (HB.out.cell (World.block_lt_of_cell? w _ hx106_3)).trans hx106_3
                                        replace hx106_4 := (HB.out.cell (World.block_lt_of_cell? w _ hx106_4)).trans hx106_4
                                        replace p106 := eq_true p106
                                        replace q106 := eq_true q106
                                        go_wp2_with (first | ((with_reducible refine gate_dst (N := 5) rfl ?_); (try (refine gate_guard (by rfl) ?_; dsimp only)); refine box_event ?hg (N := 5) ?hd (cs := #[.int .i64 0, .int .i64 0, .int .i64 0, .int .i64 0, .string (⟨#[]⟩ : ByteArray)]) (t := 53) ?hr ?_; (case hd => rfl); (case hg => rfl); (case hr => first | (go_simp; done) | (go_simp; rfl)); intro gb107 hg w47 hbox hb; have n0_ := zb BK101 hb; have n1_ := zs HB hb; have n2_ := Aside0.mk (hbox); have n3_ := zz HB hg; have n4_ := zz HB hg; have n5_ := zn BK101 hg; have n6_ := zm BK101 hg; clear BK101; clear HB; have BK101 := n0_; have HB := n1_; have BK107 := n2_; have GW107 := n3_; have GE107 := n4_; have NB101_107 := n5_; have NB107_101 := n6_; clear n0_ n1_ n2_ n3_ n4_ n5_ n6_; clear hb hbox hg; have hnb48 := NB107_101.out; have hnc48 := NB101_107.out; obtain ⟨hcz49_0, hcz49_1, hcz49_2, hcz49_3, hcz49_4⟩ := zc5 BK107; obtain ⟨hfz49_0, hfz49_1, hfz49_2, hfz49_3, hfz49_4⟩ := zf5 BK107) | ((with_reducible refine gate_store (t := 53) (p := 5) rfl ?_); refine store_event (t := 53) (p := 5) (v := ?vo_w50) (w1 := (((((w47.setCell ⟨gb107, 0, none⟩ (.int .i64 ((rd_T53 (rd_L4 l0_0 x3_2) x4_4).f0))).setCell ⟨gb107, 1, none⟩ (.int .i64 ((rd_T53 (rd_L4 l0_0 x3_2) x4_4).f1.f0))).setCell ⟨gb107, 2, none⟩ (.int .i64 ((rd_T53 (rd_L4 l0_0 x3_2) x4_4).f1.f1))).setCell ⟨gb107, 3, none⟩ (.int .i64 ((rd_T53 (rd_L4 l0_0 x3_2) x4_4).f1.f2))).setCell ⟨gb107, 4, none⟩ (.string ((rd_T53 (rd_L4 l0_0 x3_2) x4_4).f1.f3)))) ?hg ?ho ?hn ?hr ?_; (case ho => rfl); (case hg => rfl); (case hn => rfl); (case hr => first | (go_simp; done) | (go_simp; rfl)); intro w50 hw; have n0_ := zw BK101 hw; have n1_ : Aside0 (w50.heap[gb107]? = some (.cells #[.int .i64 ((rd_T53 (rd_L4 l0_0 x3_2) x4_4).f0), .int .i64 ((rd_T53 (rd_L4 l0_0 x3_2) x4_4).f1.f0), .int .i64 ((rd_T53 (rd_L4 l0_0 x3_2) x4_4).f1.f1), .int .i64 ((rd_T53 (rd_L4 l0_0 x3_2) x4_4).f1.f2), .string ((rd_T53 (rd_L4 l0_0 x3_2) x4_4).f1.f3)] 53 (0, 0))) := ⟨(by rw [hw]; exact (by refine blk_put (cs := #[.int .i64 ((rd_T53 (rd_L4 l0_0 x3_2) x4_4).f0), .int .i64 ((rd_T53 (rd_L4 l0_0 x3_2) x4_4).f1.f0), .int .i64 ((rd_T53 (rd_L4 l0_0 x3_2) x4_4).f1.f1), .int .i64 ((rd_T53 (rd_L4 l0_0 x3_2) x4_4).f1.f2), .string (⟨#[]⟩ : ByteArray)]) ?_ 4 _ rfl; refine blk_put (cs := #[.int .i64 ((rd_T53 (rd_L4 l0_0 x3_2) x4_4).f0), .int .i64 ((rd_T53 (rd_L4 l0_0 x3_2) x4_4).f1.f0), .int .i64 ((rd_T53 (rd_L4 l0_0 x3_2) x4_4).f1.f1), .int .i64 0, .string (⟨#[]⟩ : ByteArray)]) ?_ 3 _ rfl; refine blk_put (cs := #[.int .i64 ((rd_T53 (rd_L4 l0_0 x3_2) x4_4).f0), .int .i64 ((rd_T53 (rd_L4 l0_0 x3_2) x4_4).f1.f0), .int .i64 0, .int .i64 0, .string (⟨#[]⟩ : ByteArray)]) ?_ 2 _ rfl; refine blk_put (cs := #[.int .i64 ((rd_T53 (rd_L4 l0_0 x3_2) x4_4).f0), .int .i64 0, .int .i64 0, .int .i64 0, .string (⟨#[]⟩ : ByteArray)]) ?_ 1 _ rfl; refine blk_put (cs := #[.int .i64 0, .int .i64 0, .int .i64 0, .int .i64 0, .string (⟨#[]⟩ : ByteArray)]) ?_ 0 _ rfl; (with_reducible repeat (first | refine blk_drewN ?_ _ | refine blk_drew ?_ | refine blk_alloc ?_ _)); exact BK107.out))⟩; have n2_ := zu HB hw; clear hw; clear BK101; clear BK107; clear HB; have BK101 := n0_; have BK107 := n1_; have HB := n2_; clear n0_ n1_ n2_) | ((with_reducible refine gate_dst (N := 6) rfl ?_); (try (refine gate_guard (by rfl) ?_; dsimp only)); refine box_event ?hg (N := 6) ?hd (cs := #[.int .i64 0, .int .i64 0, .int .i64 0, .string (⟨#[]⟩ : ByteArray)]) (t := 41) ?hr ?_; (case hd => rfl); (case hg => rfl); (case hr => first | (go_simp; done) | (go_simp; rfl)); intro gb108 hg w51 hbox hb; have n0_ := zb BK101 hb; have n1_ := zb BK107 hb; have n2_ := zs HB hb; have n3_ := Aside0.mk (hbox); have n4_ := zz HB hg; have n5_ := zz HB hg; have n6_ := zn BK101 hg; have n7_ := zm BK101 hg; have n8_ := zn BK107 hg; have n9_ := zm BK107 hg; clear BK101; clear BK107; clear HB; have BK101 := n0_; have BK107 := n1_; have HB := n2_; have BK108 := n3_; have GW108 := n4_; have GE108 := n5_; have NB101_108 := n6_; have NB108_101 := n7_; have NB107_108 := n8_; have NB108_107 := n9_; clear n0_ n1_ n2_ n3_ n4_ n5_ n6_ n7_ n8_ n9_; clear hb hbox hg; have hnb52 := NB108_101.out; have hnc52 := NB101_108.out; have hnb53 := NB108_107.out; have hnc53 := NB107_108.out; obtain ⟨hcz54_0, hcz54_1, hcz54_2, hcz54_3⟩ := zc4 BK108; obtain ⟨hfz54_0, hfz54_1, hfz54_2, hfz54_3⟩ := zf4 BK108) | ((with_reducible refine gate_store (t := 41) (p := 6) rfl ?_); refine store_event (t := 41) (p := 6) (v := ?vo_w55) (w1 := ((((w51.setCell ⟨gb108, 0, none⟩ (.int .i64 0)).setCell ⟨gb108, 1, none⟩ (.int .i64 0)).setCell ⟨gb108, 2, none⟩ (.int .i64 0)).setCell ⟨gb108, 3, none⟩ (.string (⟨#[]⟩ : ByteArray)))) ?hg ?ho ?hn ?hr ?_; (case ho => rfl); (case hg => rfl); (case hn => rfl); (case hr => first | (go_simp; done) | (go_simp; rfl)); intro w55 hw; have n0_ := zw BK101 hw; have n1_ := zw BK107 hw; have n2_ : Aside0 (w55.heap[gb108]? = some (.cells #[.int .i64 0, .int .i64 0, .int .i64 0, .string (⟨#[]⟩ : ByteArray)] 41 (0, 0))) := ⟨(by rw [hw]; exact (by refine blk_put (cs := #[.int .i64 0, .int .i64 0, .int .i64 0, .string (⟨#[]⟩ : ByteArray)]) ?_ 3 _ rfl; refine blk_put (cs := #[.int .i64 0, .int .i64 0, .int .i64 0, .string (⟨#[]⟩ : ByteArray)]) ?_ 2 _ rfl; refine blk_put (cs := #[.int .i64 0, .int .i64 0, .int .i64 0, .string (⟨#[]⟩ : ByteArray)]) ?_ 1 _ rfl; refine blk_put (cs := #[.int .i64 0, .int .i64 0, .int .i64 0, .string (⟨#[]⟩ : ByteArray)]) ?_ 0 _ rfl; (with_reducible repeat (first | refine blk_drewN ?_ _ | refine blk_drew ?_ | refine blk_alloc ?_ _)); exact BK108.out))⟩; have n3_ := zu HB hw; clear hw; clear BK101; clear BK107; clear BK108; clear HB; have BK101 := n0_; have BK107 := n1_; have BK108 := n2_; have HB := n3_; clear n0_ n1_ n2_ n3_; obtain ⟨hcz56_0, hcz56_1, hcz56_2, hcz56_3, hcz56_4⟩ := zc5 BK107; obtain ⟨hfz56_0, hfz56_1, hfz56_2, hfz56_3, hfz56_4⟩ := zf5 BK107; obtain ⟨hcz57_0, hcz57_1, hcz57_2, hcz57_3⟩ := zc4 BK108; obtain ⟨hfz57_0, hfz57_1, hfz57_2, hfz57_3⟩ := zf4 BK108))
                                        go_ret
                                        exact ⟨by first | rfl | (simp [errW_none, errW_some] <;> rfl) | (simp [*, errW_none, errW_some] <;> rfl), zB HB⟩
                                      · rw [if_neg c45] at H
                                        have c45b0 : (!(((rd_T53 (rd_L4 l0_0 x3_2) x4_4).f1.f0) == 0) || (!(((rd_T53 (rd_L4 l0_0 x3_2) x4_4).f1.f1) == 0) || (!(((rd_T53 (rd_L4 l0_0 x3_2) x4_4).f1.f2) == 0) || (!((((rd_T53 (rd_L4 l0_0 x3_2) x4_4).f1.f3).toList) == ([] : List UInt8)))))) = false := by simpa using c45
                                        have c45p0 : (((rd_T53 (rd_L4 l0_0 x3_2) x4_4).f1.f0) = 0 ∧ ((rd_T53 (rd_L4 l0_0 x3_2) x4_4).f1.f1) = 0 ∧ ((rd_T53 (rd_L4 l0_0 x3_2) x4_4).f1.f2) = 0 ∧ (((rd_T53 (rd_L4 l0_0 x3_2) x4_4).f1.f3).toList) = ([] : List UInt8)) = True := eq_true (by simpa using c45b0)
                                        have c45p1 : (¬(((rd_T53 (rd_L4 l0_0 x3_2) x4_4).f1.f0) = 0) ∨ ¬(((rd_T53 (rd_L4 l0_0 x3_2) x4_4).f1.f1) = 0) ∨ ¬(((rd_T53 (rd_L4 l0_0 x3_2) x4_4).f1.f2) = 0) ∨ ¬((((rd_T53 (rd_L4 l0_0 x3_2) x4_4).f1.f3).toList) = ([] : List UInt8))) = False := eq_false (by have h_ := of_eq_true c45p0; simp [h_])
                                        have EZ := Aside0.mk (of_eq_true c45p0)
                                        clear c45p0 c45b0
                                        clear c45
                                        replace H := Option.bind_eq_some_iff.mp H
                                        obtain ⟨t109, A580, H⟩ := H
                                        replace H : (if t109 = true then (slipwayref02_Range_Right.l1 k4 x3_2 (wrap64 (x4_4 + 1)) l0_0) else (some false)) = some r := H
                                        have A58 := Aside0.mk A580
                                        have A58z : Aside0 (slipwayref01_Version_Right.f 0 0 0 ((rd_T53 (rd_L4 l0_0 x3_2) x4_4).f1.f3) = some t109) := ⟨by have h_ := A58.out; rw [EZ.out.1, EZ.out.2.1, EZ.out.2.2.1] at h_; exact h_⟩
                                        clear A580
                                        by_cases c59 : t109 = true
                                        · subst c59
                                          have H1 : (slipwayref02_Range_Right.l1 k4 x3_2 (wrap64 (x4_4 + 1)) l0_0) = some r := by rw [if_pos rfl] at H; exact H
                                          clear H
                                          have H := H1
                                          clear H1
                                          have H' := Aside0.mk H
                                          clear H
                                          have hcz60_0 := zc1 BK101
                                          have hfz60_0 := zf1 BK101
                                          have p104 : 0 ≤ (x3_2 : Int) := of_decide_eq_true (by first | (with_reducible assumption) | assumption)
                                          have q104 : x3_2 < (l0_0.length : Int) := of_decide_eq_true (by first | (with_reducible assumption) | assumption)
                                          obtain ⟨ad104, A104_0, c104_0, e104, hx104_0, hl104_0, hi104_0⟩ := at_L4 HR0_0.out x3_2 p104 q104
                                          cases e104
                                          replace hx104_0 := (HB.out.cell (World.block_lt_of_cell? w _ hx104_0)).trans hx104_0
                                          have HR104_0 := Aside0.mk hi104_0
                                          have HC104_0 := Aside0.mk hl104_0
                                          clear hi104_0 hl104_0
                                          replace p104 := eq_true p104
                                          replace q104 := eq_true q104
                                          have p105 : 0 ≤ (x3_2 : Int) := of_decide_eq_true (by first | (with_reducible assumption) | assumption)
                                          have q105 : x3_2 < (l0_0.length : Int) := of_decide_eq_true (by first | (with_reducible assumption) | assumption)
                                          obtain ⟨ad105, A105_0, c105_0, e105, hx105_0, hl105_0, hi105_0⟩ := at_L4 HR0_0.out x3_2 p105 q105
                                          obtain rfl : ad104 = ad105 := (by injection e105)
                                          replace hx105_0 := (HB.out.cell (World.block_lt_of_cell? w _ hx105_0)).trans hx105_0
                                          have HR105_0 := Aside0.mk hi105_0
                                          have HC105_0 := Aside0.mk hl105_0
                                          clear hi105_0 hl105_0
                                          replace p105 := eq_true p105
                                          replace q105 := eq_true q105
                                          have ea_ := Option.some.inj (hx104_0.symm.trans hx105_0)
                                          injection ea_ with ea_ en_ ec_
                                          subst ea_
                                          subst ec_
                                          clear en_
                                          have p106 : 0 ≤ (x4_4 : Int) := of_decide_eq_true (by first | (with_reducible assumption) | assumption)
                                          have q106 : x4_4 < ((rd_L4 l0_0 x3_2).length : Int) := of_decide_eq_true (by first | (with_reducible assumption) | assumption)
                                          obtain ⟨ad106, e106, hx106_0, hx106_1, hx106_2, hx106_3, hx106_4⟩ := at_T53 HR105_0.out x4_4 p106 q106
                                          cases e106
                                          replace hx106_0 := (HB.out.cell (World.block_lt_of_cell? w _ hx106_0)).trans hx106_0
                                          replace hx106_1 := (HB.out.cell (World.block_lt_of_cell? w _ hx106_1)).trans hx106_1
                                          replace hx106_2 := (HB.out.cell (World.block_lt_of_cell? w _ hx106_2)).trans hx106_2
                                          replace hx106_3 := (HB.out.cell (World.block_lt_of_cell? w _ hx106_3)).trans hx106_3
                                          replace hx106_4 := (HB.out.cell (World.block_lt_of_cell? w _ hx106_4)).trans hx106_4
                                          replace p106 := eq_true p106
                                          replace q106 := eq_true q106
                                          go_wp2_with (first | ((with_reducible refine gate_dst (N := 5) rfl ?_); (try (refine gate_guard (by rfl) ?_; dsimp only)); refine box_event ?hg (N := 5) ?hd (cs := #[.int .i64 0, .int .i64 0, .int .i64 0, .int .i64 0, .string (⟨#[]⟩ : ByteArray)]) (t := 53) ?hr ?_; (case hd => rfl); (case hg => rfl); (case hr => first | (go_simp; done) | (go_simp; rfl)); intro gb107 hg w61 hbox hb; have n0_ := zb BK101 hb; have n1_ := zs HB hb; have n2_ := Aside0.mk (hbox); have n3_ := zz HB hg; have n4_ := zz HB hg; have n5_ := zn BK101 hg; have n6_ := zm BK101 hg; clear BK101; clear HB; have BK101 := n0_; have HB := n1_; have BK107 := n2_; have GW107 := n3_; have GE107 := n4_; have NB101_107 := n5_; have NB107_101 := n6_; clear n0_ n1_ n2_ n3_ n4_ n5_ n6_; clear hb hbox hg; have hnb62 := NB107_101.out; have hnc62 := NB101_107.out; obtain ⟨hcz63_0, hcz63_1, hcz63_2, hcz63_3, hcz63_4⟩ := zc5 BK107; obtain ⟨hfz63_0, hfz63_1, hfz63_2, hfz63_3, hfz63_4⟩ := zf5 BK107) | ((with_reducible refine gate_store (t := 53) (p := 5) rfl ?_); refine store_event (t := 53) (p := 5) (v := ?vo_w64) (w1 := (((((w61.setCell ⟨gb107, 0, none⟩ (.int .i64 ((rd_T53 (rd_L4 l0_0 x3_2) x4_4).f0))).setCell ⟨gb107, 1, none⟩ (.int .i64 ((rd_T53 (rd_L4 l0_0 x3_2) x4_4).f1.f0))).setCell ⟨gb107, 2, none⟩ (.int .i64 ((rd_T53 (rd_L4 l0_0 x3_2) x4_4).f1.f1))).setCell ⟨gb107, 3, none⟩ (.int .i64 ((rd_T53 (rd_L4 l0_0 x3_2) x4_4).f1.f2))).setCell ⟨gb107, 4, none⟩ (.string ((rd_T53 (rd_L4 l0_0 x3_2) x4_4).f1.f3)))) ?hg ?ho ?hn ?hr ?_; (case ho => rfl); (case hg => rfl); (case hn => rfl); (case hr => first | (go_simp; done) | (go_simp; rfl)); intro w64 hw; have n0_ := zw BK101 hw; have n1_ : Aside0 (w64.heap[gb107]? = some (.cells #[.int .i64 ((rd_T53 (rd_L4 l0_0 x3_2) x4_4).f0), .int .i64 ((rd_T53 (rd_L4 l0_0 x3_2) x4_4).f1.f0), .int .i64 ((rd_T53 (rd_L4 l0_0 x3_2) x4_4).f1.f1), .int .i64 ((rd_T53 (rd_L4 l0_0 x3_2) x4_4).f1.f2), .string ((rd_T53 (rd_L4 l0_0 x3_2) x4_4).f1.f3)] 53 (0, 0))) := ⟨(by rw [hw]; exact (by refine blk_put (cs := #[.int .i64 ((rd_T53 (rd_L4 l0_0 x3_2) x4_4).f0), .int .i64 ((rd_T53 (rd_L4 l0_0 x3_2) x4_4).f1.f0), .int .i64 ((rd_T53 (rd_L4 l0_0 x3_2) x4_4).f1.f1), .int .i64 ((rd_T53 (rd_L4 l0_0 x3_2) x4_4).f1.f2), .string (⟨#[]⟩ : ByteArray)]) ?_ 4 _ rfl; refine blk_put (cs := #[.int .i64 ((rd_T53 (rd_L4 l0_0 x3_2) x4_4).f0), .int .i64 ((rd_T53 (rd_L4 l0_0 x3_2) x4_4).f1.f0), .int .i64 ((rd_T53 (rd_L4 l0_0 x3_2) x4_4).f1.f1), .int .i64 0, .string (⟨#[]⟩ : ByteArray)]) ?_ 3 _ rfl; refine blk_put (cs := #[.int .i64 ((rd_T53 (rd_L4 l0_0 x3_2) x4_4).f0), .int .i64 ((rd_T53 (rd_L4 l0_0 x3_2) x4_4).f1.f0), .int .i64 0, .int .i64 0, .string (⟨#[]⟩ : ByteArray)]) ?_ 2 _ rfl; refine blk_put (cs := #[.int .i64 ((rd_T53 (rd_L4 l0_0 x3_2) x4_4).f0), .int .i64 0, .int .i64 0, .int .i64 0, .string (⟨#[]⟩ : ByteArray)]) ?_ 1 _ rfl; refine blk_put (cs := #[.int .i64 0, .int .i64 0, .int .i64 0, .int .i64 0, .string (⟨#[]⟩ : ByteArray)]) ?_ 0 _ rfl; (with_reducible repeat (first | refine blk_drewN ?_ _ | refine blk_drew ?_ | refine blk_alloc ?_ _)); exact BK107.out))⟩; have n2_ := zu HB hw; clear hw; clear BK101; clear BK107; clear HB; have BK101 := n0_; have BK107 := n1_; have HB := n2_; clear n0_ n1_ n2_) | ((with_reducible refine gate_dst (N := 6) rfl ?_); (try (refine gate_guard (by rfl) ?_; dsimp only)); refine box_event ?hg (N := 6) ?hd (cs := #[.int .i64 0, .int .i64 0, .int .i64 0, .string (⟨#[]⟩ : ByteArray)]) (t := 41) ?hr ?_; (case hd => rfl); (case hg => rfl); (case hr => first | (go_simp; done) | (go_simp; rfl)); intro gb108 hg w65 hbox hb; have n0_ := zb BK101 hb; have n1_ := zb BK107 hb; have n2_ := zs HB hb; have n3_ := Aside0.mk (hbox); have n4_ := zz HB hg; have n5_ := zz HB hg; have n6_ := zn BK101 hg; have n7_ := zm BK101 hg; have n8_ := zn BK107 hg; have n9_ := zm BK107 hg; clear BK101; clear BK107; clear HB; have BK101 := n0_; have BK107 := n1_; have HB := n2_; have BK108 := n3_; have GW108 := n4_; have GE108 := n5_; have NB101_108 := n6_; have NB108_101 := n7_; have NB107_108 := n8_; have NB108_107 := n9_; clear n0_ n1_ n2_ n3_ n4_ n5_ n6_ n7_ n8_ n9_; clear hb hbox hg; have hnb66 := NB108_101.out; have hnc66 := NB101_108.out; have hnb67 := NB108_107.out; have hnc67 := NB107_108.out; obtain ⟨hcz68_0, hcz68_1, hcz68_2, hcz68_3⟩ := zc4 BK108; obtain ⟨hfz68_0, hfz68_1, hfz68_2, hfz68_3⟩ := zf4 BK108) | ((with_reducible refine gate_store (t := 41) (p := 6) rfl ?_); refine store_event (t := 41) (p := 6) (v := ?vo_w69) (w1 := ((((w65.setCell ⟨gb108, 0, none⟩ (.int .i64 0)).setCell ⟨gb108, 1, none⟩ (.int .i64 0)).setCell ⟨gb108, 2, none⟩ (.int .i64 0)).setCell ⟨gb108, 3, none⟩ (.string (⟨#[]⟩ : ByteArray)))) ?hg ?ho ?hn ?hr ?_; (case ho => rfl); (case hg => rfl); (case hn => rfl); (case hr => first | (go_simp; done) | (go_simp; rfl)); intro w69 hw; have n0_ := zw BK101 hw; have n1_ := zw BK107 hw; have n2_ : Aside0 (w69.heap[gb108]? = some (.cells #[.int .i64 0, .int .i64 0, .int .i64 0, .string (⟨#[]⟩ : ByteArray)] 41 (0, 0))) := ⟨(by rw [hw]; exact (by refine blk_put (cs := #[.int .i64 0, .int .i64 0, .int .i64 0, .string (⟨#[]⟩ : ByteArray)]) ?_ 3 _ rfl; refine blk_put (cs := #[.int .i64 0, .int .i64 0, .int .i64 0, .string (⟨#[]⟩ : ByteArray)]) ?_ 2 _ rfl; refine blk_put (cs := #[.int .i64 0, .int .i64 0, .int .i64 0, .string (⟨#[]⟩ : ByteArray)]) ?_ 1 _ rfl; refine blk_put (cs := #[.int .i64 0, .int .i64 0, .int .i64 0, .string (⟨#[]⟩ : ByteArray)]) ?_ 0 _ rfl; (with_reducible repeat (first | refine blk_drewN ?_ _ | refine blk_drew ?_ | refine blk_alloc ?_ _)); exact BK108.out))⟩; have n3_ := zu HB hw; clear hw; clear BK101; clear BK107; clear BK108; clear HB; have BK101 := n0_; have BK107 := n1_; have BK108 := n2_; have HB := n3_; clear n0_ n1_ n2_ n3_; obtain ⟨hcz70_0, hcz70_1, hcz70_2, hcz70_3, hcz70_4⟩ := zc5 BK107; obtain ⟨hfz70_0, hfz70_1, hfz70_2, hfz70_3, hfz70_4⟩ := zf5 BK107; obtain ⟨hcz71_0, hcz71_1, hcz71_2, hcz71_3⟩ := zc4 BK108; obtain ⟨hfz71_0, hfz71_1, hfz71_2, hfz71_3⟩ := zf4 BK108) | (go_at_call 38; (first | (with_reducible refine (slipwayref01_Version_Right.calls ((rd_T53 (rd_L4 l0_0 x3_2) x4_4).f1.f0) ((rd_T53 (rd_L4 l0_0 x3_2) x4_4).f1.f1) ((rd_T53 (rd_L4 l0_0 x3_2) x4_4).f1.f2) ((rd_T53 (rd_L4 l0_0 x3_2) x4_4).f1.f3) true _ A58.out).mono ?_) | (with_reducible refine (slipwayref01_Version_Right.calls 0 0 0 ((rd_T53 (rd_L4 l0_0 x3_2) x4_4).f1.f3) true _ A58z.out).mono ?_)); rintro e w72 ⟨rfl, hb⟩; have n0_ := zb BK101 hb; have n1_ := zb BK107 hb; have n2_ := zb BK108 hb; have n3_ := zs HB hb; clear BK101; clear BK107; clear BK108; clear HB; have BK101 := n0_; have BK107 := n1_; have BK108 := n2_; have HB := n3_; clear n0_ n1_ n2_ n3_; (try clear hb); (try clear hb2); (try clear hk); (try clear hi)))
                                          any_goals (exfalso; refine absurd EZ.out ?_; assumption)
                                          go_roundg k4
                                          case measure => have := HJ1.out; have := HK2.out; have := HJ8.out; have := HK4.out; omega
                                          case rel => exact ⟨(wrap64 (x4_4 + 1)), (by first | rfl | (simp; done) | (simp [*]; done)), H', ⟨by have := HJ1.out; have := HK2.out; have := HJ8.out; have := HK4.out; omega⟩, ⟨by (with_reducible repeat (first | refine blk_drewN ?_ _ | refine blk_drew ?_ | refine blk_alloc ?_ _)); exact BK101.out⟩, ⟨zB HB⟩⟩
                                        · replace c59 := Bool.eq_false_iff.mpr c59
                                          subst c59
                                          have H1 : (some false) = some r := by rw [if_neg (show ¬ (false = true) by decide)] at H; exact H
                                          clear H
                                          have H := H1
                                          clear H1
                                          obtain rfl := Option.some.inj H
                                          have hcz73_0 := zc1 BK101
                                          have hfz73_0 := zf1 BK101
                                          have p104 : 0 ≤ (x3_2 : Int) := of_decide_eq_true (by first | (with_reducible assumption) | assumption)
                                          have q104 : x3_2 < (l0_0.length : Int) := of_decide_eq_true (by first | (with_reducible assumption) | assumption)
                                          obtain ⟨ad104, A104_0, c104_0, e104, hx104_0, hl104_0, hi104_0⟩ := at_L4 HR0_0.out x3_2 p104 q104
                                          cases e104
                                          replace hx104_0 := (HB.out.cell (World.block_lt_of_cell? w _ hx104_0)).trans hx104_0
                                          have HR104_0 := Aside0.mk hi104_0
                                          have HC104_0 := Aside0.mk hl104_0
                                          clear hi104_0 hl104_0
                                          replace p104 := eq_true p104
                                          replace q104 := eq_true q104
                                          have p105 : 0 ≤ (x3_2 : Int) := of_decide_eq_true (by first | (with_reducible assumption) | assumption)
                                          have q105 : x3_2 < (l0_0.length : Int) := of_decide_eq_true (by first | (with_reducible assumption) | assumption)
                                          obtain ⟨ad105, A105_0, c105_0, e105, hx105_0, hl105_0, hi105_0⟩ := at_L4 HR0_0.out x3_2 p105 q105
                                          obtain rfl : ad104 = ad105 := (by injection e105)
                                          replace hx105_0 := (HB.out.cell (World.block_lt_of_cell? w _ hx105_0)).trans hx105_0
                                          have HR105_0 := Aside0.mk hi105_0
                                          have HC105_0 := Aside0.mk hl105_0
                                          clear hi105_0 hl105_0
                                          replace p105 := eq_true p105
                                          replace q105 := eq_true q105
                                          have ea_ := Option.some.inj (hx104_0.symm.trans hx105_0)
                                          injection ea_ with ea_ en_ ec_
                                          subst ea_
                                          subst ec_
                                          clear en_
                                          have p106 : 0 ≤ (x4_4 : Int) := of_decide_eq_true (by first | (with_reducible assumption) | assumption)
                                          have q106 : x4_4 < ((rd_L4 l0_0 x3_2).length : Int) := of_decide_eq_true (by first | (with_reducible assumption) | assumption)
                                          obtain ⟨ad106, e106, hx106_0, hx106_1, hx106_2, hx106_3, hx106_4⟩ := at_T53 HR105_0.out x4_4 p106 q106
                                          cases e106
                                          replace hx106_0 := (HB.out.cell (World.block_lt_of_cell? w _ hx106_0)).trans hx106_0
                                          replace hx106_1 := (HB.out.cell (World.block_lt_of_cell? w _ hx106_1)).trans hx106_1
                                          replace hx106_2 := (HB.out.cell (World.block_lt_of_cell? w _ hx106_2)).trans hx106_2
                                          replace hx106_3 := (HB.out.cell (World.block_lt_of_cell? w _ hx106_3)).trans hx106_3
                                          replace hx106_4 := (HB.out.cell (World.block_lt_of_cell? w _ hx106_4)).trans hx106_4
                                          replace p106 := eq_true p106
                                          replace q106 := eq_true q106
                                          go_wp2_with (first | ((with_reducible refine gate_dst (N := 5) rfl ?_); (try (refine gate_guard (by rfl) ?_; dsimp only)); refine box_event ?hg (N := 5) ?hd (cs := #[.int .i64 0, .int .i64 0, .int .i64 0, .int .i64 0, .string (⟨#[]⟩ : ByteArray)]) (t := 53) ?hr ?_; (case hd => rfl); (case hg => rfl); (case hr => first | (go_simp; done) | (go_simp; rfl)); intro gb107 hg w74 hbox hb; have n0_ := zb BK101 hb; have n1_ := zs HB hb; have n2_ := Aside0.mk (hbox); have n3_ := zz HB hg; have n4_ := zz HB hg; have n5_ := zn BK101 hg; have n6_ := zm BK101 hg; clear BK101; clear HB; have BK101 := n0_; have HB := n1_; have BK107 := n2_; have GW107 := n3_; have GE107 := n4_; have NB101_107 := n5_; have NB107_101 := n6_; clear n0_ n1_ n2_ n3_ n4_ n5_ n6_; clear hb hbox hg; have hnb75 := NB107_101.out; have hnc75 := NB101_107.out; obtain ⟨hcz76_0, hcz76_1, hcz76_2, hcz76_3, hcz76_4⟩ := zc5 BK107; obtain ⟨hfz76_0, hfz76_1, hfz76_2, hfz76_3, hfz76_4⟩ := zf5 BK107) | ((with_reducible refine gate_store (t := 53) (p := 5) rfl ?_); refine store_event (t := 53) (p := 5) (v := ?vo_w77) (w1 := (((((w74.setCell ⟨gb107, 0, none⟩ (.int .i64 ((rd_T53 (rd_L4 l0_0 x3_2) x4_4).f0))).setCell ⟨gb107, 1, none⟩ (.int .i64 ((rd_T53 (rd_L4 l0_0 x3_2) x4_4).f1.f0))).setCell ⟨gb107, 2, none⟩ (.int .i64 ((rd_T53 (rd_L4 l0_0 x3_2) x4_4).f1.f1))).setCell ⟨gb107, 3, none⟩ (.int .i64 ((rd_T53 (rd_L4 l0_0 x3_2) x4_4).f1.f2))).setCell ⟨gb107, 4, none⟩ (.string ((rd_T53 (rd_L4 l0_0 x3_2) x4_4).f1.f3)))) ?hg ?ho ?hn ?hr ?_; (case ho => rfl); (case hg => rfl); (case hn => rfl); (case hr => first | (go_simp; done) | (go_simp; rfl)); intro w77 hw; have n0_ := zw BK101 hw; have n1_ : Aside0 (w77.heap[gb107]? = some (.cells #[.int .i64 ((rd_T53 (rd_L4 l0_0 x3_2) x4_4).f0), .int .i64 ((rd_T53 (rd_L4 l0_0 x3_2) x4_4).f1.f0), .int .i64 ((rd_T53 (rd_L4 l0_0 x3_2) x4_4).f1.f1), .int .i64 ((rd_T53 (rd_L4 l0_0 x3_2) x4_4).f1.f2), .string ((rd_T53 (rd_L4 l0_0 x3_2) x4_4).f1.f3)] 53 (0, 0))) := ⟨(by rw [hw]; exact (by refine blk_put (cs := #[.int .i64 ((rd_T53 (rd_L4 l0_0 x3_2) x4_4).f0), .int .i64 ((rd_T53 (rd_L4 l0_0 x3_2) x4_4).f1.f0), .int .i64 ((rd_T53 (rd_L4 l0_0 x3_2) x4_4).f1.f1), .int .i64 ((rd_T53 (rd_L4 l0_0 x3_2) x4_4).f1.f2), .string (⟨#[]⟩ : ByteArray)]) ?_ 4 _ rfl; refine blk_put (cs := #[.int .i64 ((rd_T53 (rd_L4 l0_0 x3_2) x4_4).f0), .int .i64 ((rd_T53 (rd_L4 l0_0 x3_2) x4_4).f1.f0), .int .i64 ((rd_T53 (rd_L4 l0_0 x3_2) x4_4).f1.f1), .int .i64 0, .string (⟨#[]⟩ : ByteArray)]) ?_ 3 _ rfl; refine blk_put (cs := #[.int .i64 ((rd_T53 (rd_L4 l0_0 x3_2) x4_4).f0), .int .i64 ((rd_T53 (rd_L4 l0_0 x3_2) x4_4).f1.f0), .int .i64 0, .int .i64 0, .string (⟨#[]⟩ : ByteArray)]) ?_ 2 _ rfl; refine blk_put (cs := #[.int .i64 ((rd_T53 (rd_L4 l0_0 x3_2) x4_4).f0), .int .i64 0, .int .i64 0, .int .i64 0, .string (⟨#[]⟩ : ByteArray)]) ?_ 1 _ rfl; refine blk_put (cs := #[.int .i64 0, .int .i64 0, .int .i64 0, .int .i64 0, .string (⟨#[]⟩ : ByteArray)]) ?_ 0 _ rfl; (with_reducible repeat (first | refine blk_drewN ?_ _ | refine blk_drew ?_ | refine blk_alloc ?_ _)); exact BK107.out))⟩; have n2_ := zu HB hw; clear hw; clear BK101; clear BK107; clear HB; have BK101 := n0_; have BK107 := n1_; have HB := n2_; clear n0_ n1_ n2_) | ((with_reducible refine gate_dst (N := 6) rfl ?_); (try (refine gate_guard (by rfl) ?_; dsimp only)); refine box_event ?hg (N := 6) ?hd (cs := #[.int .i64 0, .int .i64 0, .int .i64 0, .string (⟨#[]⟩ : ByteArray)]) (t := 41) ?hr ?_; (case hd => rfl); (case hg => rfl); (case hr => first | (go_simp; done) | (go_simp; rfl)); intro gb108 hg w78 hbox hb; have n0_ := zb BK101 hb; have n1_ := zb BK107 hb; have n2_ := zs HB hb; have n3_ := Aside0.mk (hbox); have n4_ := zz HB hg; have n5_ := zz HB hg; have n6_ := zn BK101 hg; have n7_ := zm BK101 hg; have n8_ := zn BK107 hg; have n9_ := zm BK107 hg; clear BK101; clear BK107; clear HB; have BK101 := n0_; have BK107 := n1_; have HB := n2_; have BK108 := n3_; have GW108 := n4_; have GE108 := n5_; have NB101_108 := n6_; have NB108_101 := n7_; have NB107_108 := n8_; have NB108_107 := n9_; clear n0_ n1_ n2_ n3_ n4_ n5_ n6_ n7_ n8_ n9_; clear hb hbox hg; have hnb79 := NB108_101.out; have hnc79 := NB101_108.out; have hnb80 := NB108_107.out; have hnc80 := NB107_108.out; obtain ⟨hcz81_0, hcz81_1, hcz81_2, hcz81_3⟩ := zc4 BK108; obtain ⟨hfz81_0, hfz81_1, hfz81_2, hfz81_3⟩ := zf4 BK108) | ((with_reducible refine gate_store (t := 41) (p := 6) rfl ?_); refine store_event (t := 41) (p := 6) (v := ?vo_w82) (w1 := ((((w78.setCell ⟨gb108, 0, none⟩ (.int .i64 0)).setCell ⟨gb108, 1, none⟩ (.int .i64 0)).setCell ⟨gb108, 2, none⟩ (.int .i64 0)).setCell ⟨gb108, 3, none⟩ (.string (⟨#[]⟩ : ByteArray)))) ?hg ?ho ?hn ?hr ?_; (case ho => rfl); (case hg => rfl); (case hn => rfl); (case hr => first | (go_simp; done) | (go_simp; rfl)); intro w82 hw; have n0_ := zw BK101 hw; have n1_ := zw BK107 hw; have n2_ : Aside0 (w82.heap[gb108]? = some (.cells #[.int .i64 0, .int .i64 0, .int .i64 0, .string (⟨#[]⟩ : ByteArray)] 41 (0, 0))) := ⟨(by rw [hw]; exact (by refine blk_put (cs := #[.int .i64 0, .int .i64 0, .int .i64 0, .string (⟨#[]⟩ : ByteArray)]) ?_ 3 _ rfl; refine blk_put (cs := #[.int .i64 0, .int .i64 0, .int .i64 0, .string (⟨#[]⟩ : ByteArray)]) ?_ 2 _ rfl; refine blk_put (cs := #[.int .i64 0, .int .i64 0, .int .i64 0, .string (⟨#[]⟩ : ByteArray)]) ?_ 1 _ rfl; refine blk_put (cs := #[.int .i64 0, .int .i64 0, .int .i64 0, .string (⟨#[]⟩ : ByteArray)]) ?_ 0 _ rfl; (with_reducible repeat (first | refine blk_drewN ?_ _ | refine blk_drew ?_ | refine blk_alloc ?_ _)); exact BK108.out))⟩; have n3_ := zu HB hw; clear hw; clear BK101; clear BK107; clear BK108; clear HB; have BK101 := n0_; have BK107 := n1_; have BK108 := n2_; have HB := n3_; clear n0_ n1_ n2_ n3_; obtain ⟨hcz83_0, hcz83_1, hcz83_2, hcz83_3, hcz83_4⟩ := zc5 BK107; obtain ⟨hfz83_0, hfz83_1, hfz83_2, hfz83_3, hfz83_4⟩ := zf5 BK107; obtain ⟨hcz84_0, hcz84_1, hcz84_2, hcz84_3⟩ := zc4 BK108; obtain ⟨hfz84_0, hfz84_1, hfz84_2, hfz84_3⟩ := zf4 BK108) | (go_at_call 38; (first | (with_reducible refine (slipwayref01_Version_Right.calls ((rd_T53 (rd_L4 l0_0 x3_2) x4_4).f1.f0) ((rd_T53 (rd_L4 l0_0 x3_2) x4_4).f1.f1) ((rd_T53 (rd_L4 l0_0 x3_2) x4_4).f1.f2) ((rd_T53 (rd_L4 l0_0 x3_2) x4_4).f1.f3) false _ A58.out).mono ?_) | (with_reducible refine (slipwayref01_Version_Right.calls 0 0 0 ((rd_T53 (rd_L4 l0_0 x3_2) x4_4).f1.f3) false _ A58z.out).mono ?_)); rintro e w85 ⟨rfl, hb⟩; have n0_ := zb BK101 hb; have n1_ := zb BK107 hb; have n2_ := zb BK108 hb; have n3_ := zs HB hb; clear BK101; clear BK107; clear BK108; clear HB; have BK101 := n0_; have BK107 := n1_; have BK108 := n2_; have HB := n3_; clear n0_ n1_ n2_ n3_; (try clear hb); (try clear hb2); (try clear hk); (try clear hi)))
                                          any_goals (exfalso; refine absurd EZ.out ?_; assumption)
                                          go_ret
                                          exact ⟨by first | rfl | (simp [errW_none, errW_some] <;> rfl) | (simp [*, errW_none, errW_some] <;> rfl), zB HB⟩
                                    · rw [if_neg c44] at H
                                      have c44b0 : (((rd_T53 (rd_L4 l0_0 x3_2) x4_4).f0) == 0) = false := beq_eq_false_iff_ne.mpr c44
                                      have c44b1 : (((rd_T53 (rd_L4 l0_0 x3_2) x4_4).f0) != 0) = true := bne_iff_ne.mpr c44
                                      replace H := Option.bind_eq_some_iff.mp H
                                      obtain ⟨t110, A860, H⟩ := H
                                      replace H : (if t110 = true then (slipwayref02_Range_Right.l1 k4 x3_2 (wrap64 (x4_4 + 1)) l0_0) else (some false)) = some r := H
                                      have A86 := Aside0.mk A860
                                      clear A860
                                      by_cases c87 : t110 = true
                                      · subst c87
                                        have H1 : (slipwayref02_Range_Right.l1 k4 x3_2 (wrap64 (x4_4 + 1)) l0_0) = some r := by rw [if_pos rfl] at H; exact H
                                        clear H
                                        have H := H1
                                        clear H1
                                        have H' := Aside0.mk H
                                        clear H
                                        have hcz88_0 := zc1 BK101
                                        have hfz88_0 := zf1 BK101
                                        have p104 : 0 ≤ (x3_2 : Int) := of_decide_eq_true (by first | (with_reducible assumption) | assumption)
                                        have q104 : x3_2 < (l0_0.length : Int) := of_decide_eq_true (by first | (with_reducible assumption) | assumption)
                                        obtain ⟨ad104, A104_0, c104_0, e104, hx104_0, hl104_0, hi104_0⟩ := at_L4 HR0_0.out x3_2 p104 q104
                                        cases e104
                                        replace hx104_0 := (HB.out.cell (World.block_lt_of_cell? w _ hx104_0)).trans hx104_0
                                        have HR104_0 := Aside0.mk hi104_0
                                        have HC104_0 := Aside0.mk hl104_0
                                        clear hi104_0 hl104_0
                                        replace p104 := eq_true p104
                                        replace q104 := eq_true q104
                                        have p105 : 0 ≤ (x3_2 : Int) := of_decide_eq_true (by first | (with_reducible assumption) | assumption)
                                        have q105 : x3_2 < (l0_0.length : Int) := of_decide_eq_true (by first | (with_reducible assumption) | assumption)
                                        obtain ⟨ad105, A105_0, c105_0, e105, hx105_0, hl105_0, hi105_0⟩ := at_L4 HR0_0.out x3_2 p105 q105
                                        obtain rfl : ad104 = ad105 := (by injection e105)
                                        replace hx105_0 := (HB.out.cell (World.block_lt_of_cell? w _ hx105_0)).trans hx105_0
                                        have HR105_0 := Aside0.mk hi105_0
                                        have HC105_0 := Aside0.mk hl105_0
                                        clear hi105_0 hl105_0
                                        replace p105 := eq_true p105
                                        replace q105 := eq_true q105
                                        have ea_ := Option.some.inj (hx104_0.symm.trans hx105_0)
                                        injection ea_ with ea_ en_ ec_
                                        subst ea_
                                        subst ec_
                                        clear en_
                                        have p106 : 0 ≤ (x4_4 : Int) := of_decide_eq_true (by first | (with_reducible assumption) | assumption)
                                        have q106 : x4_4 < ((rd_L4 l0_0 x3_2).length : Int) := of_decide_eq_true (by first | (with_reducible assumption) | assumption)
                                        obtain ⟨ad106, e106, hx106_0, hx106_1, hx106_2, hx106_3, hx106_4⟩ := at_T53 HR105_0.out x4_4 p106 q106
                                        cases e106
                                        replace hx106_0 := (HB.out.cell (World.block_lt_of_cell? w _ hx106_0)).trans hx106_0
                                        replace hx106_1 := (HB.out.cell (World.block_lt_of_cell? w _ hx106_1)).trans hx106_1
                                        replace hx106_2 := (HB.out.cell (World.block_lt_of_cell? w _ hx106_2)).trans hx106_2
                                        replace hx106_3 := (HB.out.cell (World.block_lt_of_cell? w _ hx106_3)).trans hx106_3
                                        replace hx106_4 := (HB.out.cell (World.block_lt_of_cell? w _ hx106_4)).trans hx106_4
                                        replace p106 := eq_true p106
                                        replace q106 := eq_true q106
                                        go_wp2_with (first | ((with_reducible refine gate_dst (N := 5) rfl ?_); (try (refine gate_guard (by rfl) ?_; dsimp only)); refine box_event ?hg (N := 5) ?hd (cs := #[.int .i64 0, .int .i64 0, .int .i64 0, .int .i64 0, .string (⟨#[]⟩ : ByteArray)]) (t := 53) ?hr ?_; (case hd => rfl); (case hg => rfl); (case hr => first | (go_simp; done) | (go_simp; rfl)); intro gb107 hg w89 hbox hb; have n0_ := zb BK101 hb; have n1_ := zs HB hb; have n2_ := Aside0.mk (hbox); have n3_ := zz HB hg; have n4_ := zz HB hg; have n5_ := zn BK101 hg; have n6_ := zm BK101 hg; clear BK101; clear HB; have BK101 := n0_; have HB := n1_; have BK107 := n2_; have GW107 := n3_; have GE107 := n4_; have NB101_107 := n5_; have NB107_101 := n6_; clear n0_ n1_ n2_ n3_ n4_ n5_ n6_; clear hb hbox hg; have hnb90 := NB107_101.out; have hnc90 := NB101_107.out; obtain ⟨hcz91_0, hcz91_1, hcz91_2, hcz91_3, hcz91_4⟩ := zc5 BK107; obtain ⟨hfz91_0, hfz91_1, hfz91_2, hfz91_3, hfz91_4⟩ := zf5 BK107) | ((with_reducible refine gate_store (t := 53) (p := 5) rfl ?_); refine store_event (t := 53) (p := 5) (v := ?vo_w92) (w1 := (((((w89.setCell ⟨gb107, 0, none⟩ (.int .i64 ((rd_T53 (rd_L4 l0_0 x3_2) x4_4).f0))).setCell ⟨gb107, 1, none⟩ (.int .i64 ((rd_T53 (rd_L4 l0_0 x3_2) x4_4).f1.f0))).setCell ⟨gb107, 2, none⟩ (.int .i64 ((rd_T53 (rd_L4 l0_0 x3_2) x4_4).f1.f1))).setCell ⟨gb107, 3, none⟩ (.int .i64 ((rd_T53 (rd_L4 l0_0 x3_2) x4_4).f1.f2))).setCell ⟨gb107, 4, none⟩ (.string ((rd_T53 (rd_L4 l0_0 x3_2) x4_4).f1.f3)))) ?hg ?ho ?hn ?hr ?_; (case ho => rfl); (case hg => rfl); (case hn => rfl); (case hr => first | (go_simp; done) | (go_simp; rfl)); intro w92 hw; have n0_ := zw BK101 hw; have n1_ : Aside0 (w92.heap[gb107]? = some (.cells #[.int .i64 ((rd_T53 (rd_L4 l0_0 x3_2) x4_4).f0), .int .i64 ((rd_T53 (rd_L4 l0_0 x3_2) x4_4).f1.f0), .int .i64 ((rd_T53 (rd_L4 l0_0 x3_2) x4_4).f1.f1), .int .i64 ((rd_T53 (rd_L4 l0_0 x3_2) x4_4).f1.f2), .string ((rd_T53 (rd_L4 l0_0 x3_2) x4_4).f1.f3)] 53 (0, 0))) := ⟨(by rw [hw]; exact (by refine blk_put (cs := #[.int .i64 ((rd_T53 (rd_L4 l0_0 x3_2) x4_4).f0), .int .i64 ((rd_T53 (rd_L4 l0_0 x3_2) x4_4).f1.f0), .int .i64 ((rd_T53 (rd_L4 l0_0 x3_2) x4_4).f1.f1), .int .i64 ((rd_T53 (rd_L4 l0_0 x3_2) x4_4).f1.f2), .string (⟨#[]⟩ : ByteArray)]) ?_ 4 _ rfl; refine blk_put (cs := #[.int .i64 ((rd_T53 (rd_L4 l0_0 x3_2) x4_4).f0), .int .i64 ((rd_T53 (rd_L4 l0_0 x3_2) x4_4).f1.f0), .int .i64 ((rd_T53 (rd_L4 l0_0 x3_2) x4_4).f1.f1), .int .i64 0, .string (⟨#[]⟩ : ByteArray)]) ?_ 3 _ rfl; refine blk_put (cs := #[.int .i64 ((rd_T53 (rd_L4 l0_0 x3_2) x4_4).f0), .int .i64 ((rd_T53 (rd_L4 l0_0 x3_2) x4_4).f1.f0), .int .i64 0, .int .i64 0, .string (⟨#[]⟩ : ByteArray)]) ?_ 2 _ rfl; refine blk_put (cs := #[.int .i64 ((rd_T53 (rd_L4 l0_0 x3_2) x4_4).f0), .int .i64 0, .int .i64 0, .int .i64 0, .string (⟨#[]⟩ : ByteArray)]) ?_ 1 _ rfl; refine blk_put (cs := #[.int .i64 0, .int .i64 0, .int .i64 0, .int .i64 0, .string (⟨#[]⟩ : ByteArray)]) ?_ 0 _ rfl; (with_reducible repeat (first | refine blk_drewN ?_ _ | refine blk_drew ?_ | refine blk_alloc ?_ _)); exact BK107.out))⟩; have n2_ := zu HB hw; clear hw; clear BK101; clear BK107; clear HB; have BK101 := n0_; have BK107 := n1_; have HB := n2_; clear n0_ n1_ n2_) | ((with_reducible refine gate_dst (N := 6) rfl ?_); (try (refine gate_guard (by rfl) ?_; dsimp only)); refine box_event ?hg (N := 6) ?hd (cs := #[.int .i64 0, .int .i64 0, .int .i64 0, .string (⟨#[]⟩ : ByteArray)]) (t := 41) ?hr ?_; (case hd => rfl); (case hg => rfl); (case hr => first | (go_simp; done) | (go_simp; rfl)); intro gb108 hg w93 hbox hb; have n0_ := zb BK101 hb; have n1_ := zb BK107 hb; have n2_ := zs HB hb; have n3_ := Aside0.mk (hbox); have n4_ := zz HB hg; have n5_ := zz HB hg; have n6_ := zn BK101 hg; have n7_ := zm BK101 hg; have n8_ := zn BK107 hg; have n9_ := zm BK107 hg; clear BK101; clear BK107; clear HB; have BK101 := n0_; have BK107 := n1_; have HB := n2_; have BK108 := n3_; have GW108 := n4_; have GE108 := n5_; have NB101_108 := n6_; have NB108_101 := n7_; have NB107_108 := n8_; have NB108_107 := n9_; clear n0_ n1_ n2_ n3_ n4_ n5_ n6_ n7_ n8_ n9_; clear hb hbox hg; have hnb94 := NB108_101.out; have hnc94 := NB101_108.out; have hnb95 := NB108_107.out; have hnc95 := NB107_108.out; obtain ⟨hcz96_0, hcz96_1, hcz96_2, hcz96_3⟩ := zc4 BK108; obtain ⟨hfz96_0, hfz96_1, hfz96_2, hfz96_3⟩ := zf4 BK108) | ((with_reducible refine gate_store (t := 41) (p := 6) rfl ?_); refine store_event (t := 41) (p := 6) (v := ?vo_w97) (w1 := ((((w93.setCell ⟨gb108, 0, none⟩ (.int .i64 0)).setCell ⟨gb108, 1, none⟩ (.int .i64 0)).setCell ⟨gb108, 2, none⟩ (.int .i64 0)).setCell ⟨gb108, 3, none⟩ (.string (⟨#[]⟩ : ByteArray)))) ?hg ?ho ?hn ?hr ?_; (case ho => rfl); (case hg => rfl); (case hn => rfl); (case hr => first | (go_simp; done) | (go_simp; rfl)); intro w97 hw; have n0_ := zw BK101 hw; have n1_ := zw BK107 hw; have n2_ : Aside0 (w97.heap[gb108]? = some (.cells #[.int .i64 0, .int .i64 0, .int .i64 0, .string (⟨#[]⟩ : ByteArray)] 41 (0, 0))) := ⟨(by rw [hw]; exact (by refine blk_put (cs := #[.int .i64 0, .int .i64 0, .int .i64 0, .string (⟨#[]⟩ : ByteArray)]) ?_ 3 _ rfl; refine blk_put (cs := #[.int .i64 0, .int .i64 0, .int .i64 0, .string (⟨#[]⟩ : ByteArray)]) ?_ 2 _ rfl; refine blk_put (cs := #[.int .i64 0, .int .i64 0, .int .i64 0, .string (⟨#[]⟩ : ByteArray)]) ?_ 1 _ rfl; refine blk_put (cs := #[.int .i64 0, .int .i64 0, .int .i64 0, .string (⟨#[]⟩ : ByteArray)]) ?_ 0 _ rfl; (with_reducible repeat (first | refine blk_drewN ?_ _ | refine blk_drew ?_ | refine blk_alloc ?_ _)); exact BK108.out))⟩; have n3_ := zu HB hw; clear hw; clear BK101; clear BK107; clear BK108; clear HB; have BK101 := n0_; have BK107 := n1_; have BK108 := n2_; have HB := n3_; clear n0_ n1_ n2_ n3_; obtain ⟨hcz98_0, hcz98_1, hcz98_2, hcz98_3, hcz98_4⟩ := zc5 BK107; obtain ⟨hfz98_0, hfz98_1, hfz98_2, hfz98_3, hfz98_4⟩ := zf5 BK107) | (go_at_call 38; (with_reducible refine (slipwayref01_Version_Right.calls ((rd_T53 (rd_L4 l0_0 x3_2) x4_4).f1.f0) ((rd_T53 (rd_L4 l0_0 x3_2) x4_4).f1.f1) ((rd_T53 (rd_L4 l0_0 x3_2) x4_4).f1.f2) ((rd_T53 (rd_L4 l0_0 x3_2) x4_4).f1.f3) true _ A86.out).mono ?_); rintro e w99 ⟨rfl, hb⟩; have n0_ := zb BK101 hb; have n1_ := zb BK107 hb; have n2_ := zb BK108 hb; have n3_ := zs HB hb; clear BK101; clear BK107; clear BK108; clear HB; have BK101 := n0_; have BK107 := n1_; have BK108 := n2_; have HB := n3_; clear n0_ n1_ n2_ n3_; (try clear hb); (try clear hb2); (try clear hk); (try clear hi)))
                                        go_roundg k4
                                        case measure => have := HJ1.out; have := HK2.out; have := HJ8.out; have := HK4.out; omega
                                        case rel => exact ⟨(wrap64 (x4_4 + 1)), (by first | rfl | (simp; done) | (simp [*]; done)), H', ⟨by have := HJ1.out; have := HK2.out; have := HJ8.out; have := HK4.out; omega⟩, ⟨by (with_reducible repeat (first | refine blk_drewN ?_ _ | refine blk_drew ?_ | refine blk_alloc ?_ _)); exact BK101.out⟩, ⟨zB HB⟩⟩
                                      · replace c87 := Bool.eq_false_iff.mpr c87
                                        subst c87
                                        have H1 : (some false) = some r := by rw [if_neg (show ¬ (false = true) by decide)] at H; exact H
                                        clear H
                                        have H := H1
                                        clear H1
                                        obtain rfl := Option.some.inj H
                                        have hcz100_0 := zc1 BK101
                                        have hfz100_0 := zf1 BK101
                                        have p104 : 0 ≤ (x3_2 : Int) := of_decide_eq_true (by first | (with_reducible assumption) | assumption)
                                        have q104 : x3_2 < (l0_0.length : Int) := of_decide_eq_true (by first | (with_reducible assumption) | assumption)
                                        obtain ⟨ad104, A104_0, c104_0, e104, hx104_0, hl104_0, hi104_0⟩ := at_L4 HR0_0.out x3_2 p104 q104
                                        cases e104
                                        replace hx104_0 := (HB.out.cell (World.block_lt_of_cell? w _ hx104_0)).trans hx104_0
                                        have HR104_0 := Aside0.mk hi104_0
                                        have HC104_0 := Aside0.mk hl104_0
                                        clear hi104_0 hl104_0
                                        replace p104 := eq_true p104
                                        replace q104 := eq_true q104
                                        have p105 : 0 ≤ (x3_2 : Int) := of_decide_eq_true (by first | (with_reducible assumption) | assumption)
                                        have q105 : x3_2 < (l0_0.length : Int) := of_decide_eq_true (by first | (with_reducible assumption) | assumption)
                                        obtain ⟨ad105, A105_0, c105_0, e105, hx105_0, hl105_0, hi105_0⟩ := at_L4 HR0_0.out x3_2 p105 q105
                                        obtain rfl : ad104 = ad105 := (by injection e105)
                                        replace hx105_0 := (HB.out.cell (World.block_lt_of_cell? w _ hx105_0)).trans hx105_0
                                        have HR105_0 := Aside0.mk hi105_0
                                        have HC105_0 := Aside0.mk hl105_0
                                        clear hi105_0 hl105_0
                                        replace p105 := eq_true p105
                                        replace q105 := eq_true q105
                                        have ea_ := Option.some.inj (hx104_0.symm.trans hx105_0)
                                        injection ea_ with ea_ en_ ec_
                                        subst ea_
                                        subst ec_
                                        clear en_
                                        have p106 : 0 ≤ (x4_4 : Int) := of_decide_eq_true (by first | (with_reducible assumption) | assumption)
                                        have q106 : x4_4 < ((rd_L4 l0_0 x3_2).length : Int) := of_decide_eq_true (by first | (with_reducible assumption) | assumption)
                                        obtain ⟨ad106, e106, hx106_0, hx106_1, hx106_2, hx106_3, hx106_4⟩ := at_T53 HR105_0.out x4_4 p106 q106
                                        cases e106
                                        replace hx106_0 := (HB.out.cell (World.block_lt_of_cell? w _ hx106_0)).trans hx106_0
                                        replace hx106_1 := (HB.out.cell (World.block_lt_of_cell? w _ hx106_1)).trans hx106_1
                                        replace hx106_2 := (HB.out.cell (World.block_lt_of_cell? w _ hx106_2)).trans hx106_2
                                        replace hx106_3 := (HB.out.cell (World.block_lt_of_cell? w _ hx106_3)).trans hx106_3
                                        replace hx106_4 := (HB.out.cell (World.block_lt_of_cell? w _ hx106_4)).trans hx106_4
                                        replace p106 := eq_true p106
                                        replace q106 := eq_true q106
                                        go_wp2_with (first | ((with_reducible refine gate_dst (N := 5) rfl ?_); (try (refine gate_guard (by rfl) ?_; dsimp only)); refine box_event ?hg (N := 5) ?hd (cs := #[.int .i64 0, .int .i64 0, .int .i64 0, .int .i64 0, .string (⟨#[]⟩ : ByteArray)]) (t := 53) ?hr ?_; (case hd => rfl); (case hg => rfl); (case hr => first | (go_simp; done) | (go_simp; rfl)); intro gb107 hg w101 hbox hb; have n0_ := zb BK101 hb; have n1_ := zs HB hb; have n2_ := Aside0.mk (hbox); have n3_ := zz HB hg; have n4_ := zz HB hg; have n5_ := zn BK101 hg; have n6_ := zm BK101 hg; clear BK101; clear HB; have BK101 := n0_; have HB := n1_; have BK107 := n2_; have GW107 := n3_; have GE107 := n4_; have NB101_107 := n5_; have NB107_101 := n6_; clear n0_ n1_ n2_ n3_ n4_ n5_ n6_; clear hb hbox hg; have hnb102 := NB107_101.out; have hnc102 := NB101_107.out; obtain ⟨hcz103_0, hcz103_1, hcz103_2, hcz103_3, hcz103_4⟩ := zc5 BK107; obtain ⟨hfz103_0, hfz103_1, hfz103_2, hfz103_3, hfz103_4⟩ := zf5 BK107) | ((with_reducible refine gate_store (t := 53) (p := 5) rfl ?_); refine store_event (t := 53) (p := 5) (v := ?vo_w104) (w1 := (((((w101.setCell ⟨gb107, 0, none⟩ (.int .i64 ((rd_T53 (rd_L4 l0_0 x3_2) x4_4).f0))).setCell ⟨gb107, 1, none⟩ (.int .i64 ((rd_T53 (rd_L4 l0_0 x3_2) x4_4).f1.f0))).setCell ⟨gb107, 2, none⟩ (.int .i64 ((rd_T53 (rd_L4 l0_0 x3_2) x4_4).f1.f1))).setCell ⟨gb107, 3, none⟩ (.int .i64 ((rd_T53 (rd_L4 l0_0 x3_2) x4_4).f1.f2))).setCell ⟨gb107, 4, none⟩ (.string ((rd_T53 (rd_L4 l0_0 x3_2) x4_4).f1.f3)))) ?hg ?ho ?hn ?hr ?_; (case ho => rfl); (case hg => rfl); (case hn => rfl); (case hr => first | (go_simp; done) | (go_simp; rfl)); intro w104 hw; have n0_ := zw BK101 hw; have n1_ : Aside0 (w104.heap[gb107]? = some (.cells #[.int .i64 ((rd_T53 (rd_L4 l0_0 x3_2) x4_4).f0), .int .i64 ((rd_T53 (rd_L4 l0_0 x3_2) x4_4).f1.f0), .int .i64 ((rd_T53 (rd_L4 l0_0 x3_2) x4_4).f1.f1), .int .i64 ((rd_T53 (rd_L4 l0_0 x3_2) x4_4).f1.f2), .string ((rd_T53 (rd_L4 l0_0 x3_2) x4_4).f1.f3)] 53 (0, 0))) := ⟨(by rw [hw]; exact (by refine blk_put (cs := #[.int .i64 ((rd_T53 (rd_L4 l0_0 x3_2) x4_4).f0), .int .i64 ((rd_T53 (rd_L4 l0_0 x3_2) x4_4).f1.f0), .int .i64 ((rd_T53 (rd_L4 l0_0 x3_2) x4_4).f1.f1), .int .i64 ((rd_T53 (rd_L4 l0_0 x3_2) x4_4).f1.f2), .string (⟨#[]⟩ : ByteArray)]) ?_ 4 _ rfl; refine blk_put (cs := #[.int .i64 ((rd_T53 (rd_L4 l0_0 x3_2) x4_4).f0), .int .i64 ((rd_T53 (rd_L4 l0_0 x3_2) x4_4).f1.f0), .int .i64 ((rd_T53 (rd_L4 l0_0 x3_2) x4_4).f1.f1), .int .i64 0, .string (⟨#[]⟩ : ByteArray)]) ?_ 3 _ rfl; refine blk_put (cs := #[.int .i64 ((rd_T53 (rd_L4 l0_0 x3_2) x4_4).f0), .int .i64 ((rd_T53 (rd_L4 l0_0 x3_2) x4_4).f1.f0), .int .i64 0, .int .i64 0, .string (⟨#[]⟩ : ByteArray)]) ?_ 2 _ rfl; refine blk_put (cs := #[.int .i64 ((rd_T53 (rd_L4 l0_0 x3_2) x4_4).f0), .int .i64 0, .int .i64 0, .int .i64 0, .string (⟨#[]⟩ : ByteArray)]) ?_ 1 _ rfl; refine blk_put (cs := #[.int .i64 0, .int .i64 0, .int .i64 0, .int .i64 0, .string (⟨#[]⟩ : ByteArray)]) ?_ 0 _ rfl; (with_reducible repeat (first | refine blk_drewN ?_ _ | refine blk_drew ?_ | refine blk_alloc ?_ _)); exact BK107.out))⟩; have n2_ := zu HB hw; clear hw; clear BK101; clear BK107; clear HB; have BK101 := n0_; have BK107 := n1_; have HB := n2_; clear n0_ n1_ n2_) | ((with_reducible refine gate_dst (N := 6) rfl ?_); (try (refine gate_guard (by rfl) ?_; dsimp only)); refine box_event ?hg (N := 6) ?hd (cs := #[.int .i64 0, .int .i64 0, .int .i64 0, .string (⟨#[]⟩ : ByteArray)]) (t := 41) ?hr ?_; (case hd => rfl); (case hg => rfl); (case hr => first | (go_simp; done) | (go_simp; rfl)); intro gb108 hg w105 hbox hb; have n0_ := zb BK101 hb; have n1_ := zb BK107 hb; have n2_ := zs HB hb; have n3_ := Aside0.mk (hbox); have n4_ := zz HB hg; have n5_ := zz HB hg; have n6_ := zn BK101 hg; have n7_ := zm BK101 hg; have n8_ := zn BK107 hg; have n9_ := zm BK107 hg; clear BK101; clear BK107; clear HB; have BK101 := n0_; have BK107 := n1_; have HB := n2_; have BK108 := n3_; have GW108 := n4_; have GE108 := n5_; have NB101_108 := n6_; have NB108_101 := n7_; have NB107_108 := n8_; have NB108_107 := n9_; clear n0_ n1_ n2_ n3_ n4_ n5_ n6_ n7_ n8_ n9_; clear hb hbox hg; have hnb106 := NB108_101.out; have hnc106 := NB101_108.out; have hnb107 := NB108_107.out; have hnc107 := NB107_108.out; obtain ⟨hcz108_0, hcz108_1, hcz108_2, hcz108_3⟩ := zc4 BK108; obtain ⟨hfz108_0, hfz108_1, hfz108_2, hfz108_3⟩ := zf4 BK108) | ((with_reducible refine gate_store (t := 41) (p := 6) rfl ?_); refine store_event (t := 41) (p := 6) (v := ?vo_w109) (w1 := ((((w105.setCell ⟨gb108, 0, none⟩ (.int .i64 0)).setCell ⟨gb108, 1, none⟩ (.int .i64 0)).setCell ⟨gb108, 2, none⟩ (.int .i64 0)).setCell ⟨gb108, 3, none⟩ (.string (⟨#[]⟩ : ByteArray)))) ?hg ?ho ?hn ?hr ?_; (case ho => rfl); (case hg => rfl); (case hn => rfl); (case hr => first | (go_simp; done) | (go_simp; rfl)); intro w109 hw; have n0_ := zw BK101 hw; have n1_ := zw BK107 hw; have n2_ : Aside0 (w109.heap[gb108]? = some (.cells #[.int .i64 0, .int .i64 0, .int .i64 0, .string (⟨#[]⟩ : ByteArray)] 41 (0, 0))) := ⟨(by rw [hw]; exact (by refine blk_put (cs := #[.int .i64 0, .int .i64 0, .int .i64 0, .string (⟨#[]⟩ : ByteArray)]) ?_ 3 _ rfl; refine blk_put (cs := #[.int .i64 0, .int .i64 0, .int .i64 0, .string (⟨#[]⟩ : ByteArray)]) ?_ 2 _ rfl; refine blk_put (cs := #[.int .i64 0, .int .i64 0, .int .i64 0, .string (⟨#[]⟩ : ByteArray)]) ?_ 1 _ rfl; refine blk_put (cs := #[.int .i64 0, .int .i64 0, .int .i64 0, .string (⟨#[]⟩ : ByteArray)]) ?_ 0 _ rfl; (with_reducible repeat (first | refine blk_drewN ?_ _ | refine blk_drew ?_ | refine blk_alloc ?_ _)); exact BK108.out))⟩; have n3_ := zu HB hw; clear hw; clear BK101; clear BK107; clear BK108; clear HB; have BK101 := n0_; have BK107 := n1_; have BK108 := n2_; have HB := n3_; clear n0_ n1_ n2_ n3_; obtain ⟨hcz110_0, hcz110_1, hcz110_2, hcz110_3, hcz110_4⟩ := zc5 BK107; obtain ⟨hfz110_0, hfz110_1, hfz110_2, hfz110_3, hfz110_4⟩ := zf5 BK107) | (go_at_call 38; (with_reducible refine (slipwayref01_Version_Right.calls ((rd_T53 (rd_L4 l0_0 x3_2) x4_4).f1.f0) ((rd_T53 (rd_L4 l0_0 x3_2) x4_4).f1.f1) ((rd_T53 (rd_L4 l0_0 x3_2) x4_4).f1.f2) ((rd_T53 (rd_L4 l0_0 x3_2) x4_4).f1.f3) false _ A86.out).mono ?_); rintro e w111 ⟨rfl, hb⟩; have n0_ := zb BK101 hb; have n1_ := zb BK107 hb; have n2_ := zb BK108 hb; have n3_ := zs HB hb; clear BK101; clear BK107; clear BK108; clear HB; have BK101 := n0_; have BK107 := n1_; have BK108 := n2_; have HB := n3_; clear n0_ n1_ n2_ n3_; (try clear hb); (try clear hb2); (try clear hk); (try clear hi)))
                                        go_ret
                                        exact ⟨by first | rfl | (simp [errW_none, errW_some] <;> rfl) | (simp [*, errW_none, errW_some] <;> rfl), zB HB⟩
                              · rw [if_neg c19] at H
                                exact absurd H (by simp)
                            · rw [if_neg c18] at H
                              have c18b0 : decide (x4_4 < ((rd_L4 l0_0 x3_2).length : Int)) = false := decide_eq_false c18
                              clear c18
                              have H' := Aside0.mk H
                              clear H
                              have hcz112_0 := zc1 BK101
                              have hfz112_0 := zf1 BK101
                              have p104 : 0 ≤ (x3_2 : Int) := of_decide_eq_true (by first | (with_reducible assumption) | assumption)
                              have q104 : x3_2 < (l0_0.length : Int) := of_decide_eq_true (by first | (with_reducible assumption) | assumption)
                              obtain ⟨ad104, A104_0, c104_0, e104, hx104_0, hl104_0, hi104_0⟩ := at_L4 HR0_0.out x3_2 p104 q104
                              cases e104
                              replace hx104_0 := (HB.out.cell (World.block_lt_of_cell? w _ hx104_0)).trans hx104_0
                              have HR104_0 := Aside0.mk hi104_0
                              have HC104_0 := Aside0.mk hl104_0
                              clear hi104_0 hl104_0
                              replace p104 := eq_true p104
                              replace q104 := eq_true q104
                              go_wp2
                              go_roundg k4
                              case measure => have := HJ1.out; have := HK2.out; have := HJ8.out; have := HK4.out; omega
                              case rel => exact ⟨(wrap64 (x3_2 + 1)), (by first | rfl | (simp; done) | (simp [*]; done)), H', ⟨by have := HJ1.out; have := HK2.out; have := HJ8.out; have := HK4.out; omega⟩, ⟨by (with_reducible repeat (first | refine blk_drewN ?_ _ | refine blk_drew ?_ | refine blk_alloc ?_ _)); exact BK101.out⟩, ⟨zB HB⟩⟩
                          · rw [if_neg c17] at H
                            exact absurd H (by simp)
                        · rw [if_neg c16] at H
                          exact absurd H (by simp)
            · rw [if_neg c8] at H
              have c8b0 : decide (x3_2 < (l0_0.length : Int)) = false := decide_eq_false c8
              clear c8
              obtain rfl := Option.some.inj H
              have hcz113_0 := zc1 BK101
              have hfz113_0 := zf1 BK101
              go_wp2
              go_ret
              exact ⟨by first | rfl | (simp [errW_none, errW_some] <;> rfl) | (simp [*, errW_none, errW_some] <;> rfl), zB HB⟩


end Go.Proofs.YtckeeefeiljamaaGreatDoor.PRan
