/- slipwayref02.Upper and one: what they answer. -/
import Derived.Test.YtckeeefeiljamaaGreatDoorProg
import Derived.Below
import Derived.Deep.Draws
import Derived.Deep.AppendLies
import Derived.Maps.AppendAt
import Derived.OwnWalk
import Derived.Laws.BytesArg
import Derived.Laws.MakeOwn
import Derived.Laws.OwnMore
import Derived.Deep.OwnRows
import Derived.Tactics
import Derived.Lib.ConvBytes
import Derived.Laws.Slices
import Derived.WalkKit
import Derived.KernelRfl
import Derived.RowKit3
import Derived.Deep.LoopGhost
import Derived.Deep.QuietTactic
import Derived.BigQuiet
import Derived.WideLaws
import Derived.Deep.DeepCutAuto
import Derived.Deep.CutBlock
import Derived.Deep.RegionHeld3
import Derived.Laws.Rows
import Derived.Lib.AppendStr
import Derived.ArgAppend
import Derived.Laws.IdiomCopy
import Derived.OrdersHeld
import Derived.Laws.BitsLemmas
import Derived.RowKit
import Derived.Test.YtckeeefeiljamaaGreatDoorV1
import Derived.Test.YtckeeefeiljamaaGreatDoorXG
import Derived.Test.YtckeeefeiljamaaGreatDoorXQ
import Derived.Test.YtckeeefeiljamaaGreatDoorXH
namespace Go.Proofs.YtckeeefeiljamaaGreatDoor.PRu
open Go.RowKit Go.Proofs.YtckeeefeiljamaaGreatDoorW.PrintWords Go.Proofs.YtckeeefeiljamaaGreatDoorW.PrintLast Go.Proofs.YtckeeefeiljamaaGreatDoorW.PrintMore
attribute [local go_sem] max2_int min2_int max_two min_two max_three min_three max_four min_four   -- for this text's walks alone
set_option linter.unusedVariables false
set_option linter.unusedSimpArgs false



def errW : Option Int → Value
  | none => .nilIface
  | some c => .iface 0 (.int .i64 c)
theorem errW_none : errW none = .nilIface := rfl
theorem errW_some (c : Int) : errW (some c) = .iface 0 (.int .i64 c) := rfl

-- the values' own types

end Go.Proofs.YtckeeefeiljamaaGreatDoor.PRu
namespace Go.Proofs.YtckeeefeiljamaaGreatDoor.PRu
open Go.RowKit Go.Proofs.YtckeeefeiljamaaGreatDoorW.PrintWords Go.Proofs.YtckeeefeiljamaaGreatDoorW.PrintLast Go.Proofs.YtckeeefeiljamaaGreatDoorW.PrintMore
attribute [local go_sem] max2_int min2_int max_two min_two max_three min_three max_four min_four   -- for this text's walks alone
set_option linter.unusedVariables false
set_option linter.unusedSimpArgs false

/-! ### slipwayref02_Upper: function 23 -/
def slipwayref02_Upper.j0 : Nat → Bool → Int → Int → Int → Int → ByteArray → Int → Int → Int → ByteArray → Option (Int × Int × Int × ByteArray × Bool)
  | 0, _, _, _, _, _, _, _, _, _, _ => none
  | k + 1, x21, x102000, x102001, x102002, x102003, x102004, x104000, x104001, x104002, x104003 => if x21 = true then ((slipwayref01_Version_Right.f (wrap64 (x102001 + 1)) 0 0 (⟨#[]⟩ : ByteArray)).bind fun t104 => (some (wrap64 (x102001 + 1), 0, 0, (⟨#[]⟩ : ByteArray), t104))) else (if x102000 = 6 then (if x102002 = 0 then ((slipwayref01_Version_Right.f 0 0 (wrap64 (x102003 + 1)) (⟨#[]⟩ : ByteArray)).bind fun t105 => (some (0, 0, wrap64 (x102003 + 1), (⟨#[]⟩ : ByteArray), t105))) else ((slipwayref01_Version_Right.f x104000 x104001 x104002 x104003).bind fun t106 => (some (x104000, x104001, x104002, x104003, t106)))) else ((slipwayref01_Version_Right.f x104000 x104001 x104002 x104003).bind fun t107 => (some (x104000, x104001, x104002, x104003, t107))))
def slipwayref02_Upper.f (k : Nat) (a0_0 : Int) (a0_1 : Int) (a0_2 : Int) (a0_3 : Int) (a0_4 : ByteArray) : Option (Int × Int × Int × ByteArray × Bool) := if a0_0 = 6 then (slipwayref02_Upper.j0 k (decide (a0_1 > 0)) a0_0 a0_1 a0_2 a0_3 a0_4 a0_1 (wrap64 (a0_2 + 1)) 0 (⟨#[]⟩ : ByteArray)) else (slipwayref02_Upper.j0 k false a0_0 a0_1 a0_2 a0_3 a0_4 a0_1 (wrap64 (a0_2 + 1)) 0 (⟨#[]⟩ : ByteArray))
theorem slipwayref02_Upper.mono_l : ∀ k, (∀ y0 y1 y2 y3 y4 y5 y6 y7 y8 y9, LeO (slipwayref02_Upper.j0 k y0 y1 y2 y3 y4 y5 y6 y7 y8 y9) (slipwayref02_Upper.j0 (k + 1) y0 y1 y2 y3 y4 y5 y6 y7 y8 y9))
  | 0 => fun _ _ _ _ _ _ _ _ _ _ r h => by simp [slipwayref02_Upper.j0] at h
  | k + 1 => by
    have ih0 := slipwayref02_Upper.mono_l k
    · intro y0 y1 y2 y3 y4 y5 y6 y7 y8 y9
      unfold slipwayref02_Upper.j0
      repeat' first
      | (with_reducible exact ih0 _ _ _ _ _ _ _ _ _ _)
      | (with_reducible exact LeO.refl _)
      | (with_reducible exact LeO.none _)
      | (with_reducible refine LeO.ite ?_ ?_)
      | (with_reducible refine LeO.bind ?_ (fun _ => ?_))
      | exact ih0 _ _ _ _ _ _ _ _ _ _
      | exact LeO.none _
      | refine LeO.ite ?_ ?_
      | refine LeO.bind ?_ (fun _ => ?_)
theorem slipwayref02_Upper.mono : ∀ a0 a1 a2 a3 a4 k, LeO (slipwayref02_Upper.f k a0 a1 a2 a3 a4) (slipwayref02_Upper.f (k + 1) a0 a1 a2 a3 a4) := by
  intro a0 a1 a2 a3 a4 k
  have ih0 := slipwayref02_Upper.mono_l k
  unfold slipwayref02_Upper.f
  repeat' first
      | (with_reducible exact ih0 _ _ _ _ _ _ _ _ _ _)
      | (with_reducible exact LeO.refl _)
      | (with_reducible exact LeO.none _)
      | (with_reducible refine LeO.ite ?_ ?_)
      | (with_reducible refine LeO.bind ?_ (fun _ => ?_))
      | exact ih0 _ _ _ _ _ _ _ _ _ _
      | exact LeO.none _
      | refine LeO.ite ?_ ?_
      | refine LeO.bind ?_ (fun _ => ?_)
set_option maxHeartbeats 8000000 in
set_option maxRecDepth 100000 in
theorem slipwayref02_Upper.calls (k : Nat) (a0_0 : Int) (a0_1 : Int) (a0_2 : Int) (a0_3 : Int) (a0_4 : ByteArray) (r1 : Int) (r2 : Int) (r3 : Int) (r4 : ByteArray) (r5 : Bool) (w : World) (h : slipwayref02_Upper.f k a0_0 a0_1 a0_2 a0_3 a0_4 = some (r1, r2, r3, r4, r5)) :
    Calls Tryz.prog 23 #[.agg #[.int .i64 a0_0, .int .i64 a0_1, .int .i64 a0_2, .int .i64 a0_3, .string a0_4]] w fun e w' => e = .returned (.tuple #[.agg #[.int .i64 r1, .int .i64 r2, .int .i64 r3, .string r4], .bool r5]) ∧ Below w.heap.size w w' := by
  have hu53 := Tryz.underlying53
  have hu41 := Tryz.underlying41
  have HB := Aside0.mk (Below.refl w.heap.size w)
  have H : (if a0_0 = 6 then (slipwayref02_Upper.j0 k (decide (a0_1 > 0)) a0_0 a0_1 a0_2 a0_3 a0_4 a0_1 (wrap64 (a0_2 + 1)) 0 (⟨#[]⟩ : ByteArray)) else (slipwayref02_Upper.j0 k false a0_0 a0_1 a0_2 a0_3 a0_4 a0_1 (wrap64 (a0_2 + 1)) 0 (⟨#[]⟩ : ByteArray))) = some (r1, r2, r3, r4, r5) := h
  clear h
  have HC2 := Aside0.mk H
  clear H
  go_enter Tryz.func23, Tryz.ntmps23
  go_upto_region 2 with (first | ((with_reducible refine gate_dst (N := 1) rfl ?_); refine box_event ?hg (N := 1) ?hd (cs := #[.int .i64 a0_0, .int .i64 a0_1, .int .i64 a0_2, .int .i64 a0_3, .string a0_4]) (t := 53) ?hr ?_; (case hd => rfl); (case hg => rfl); (case hr => first | (go_simp; done) | (go_simp; rfl)); intro gb101 hg w3 hbox hb; have n0_ := zs HB hb; have n1_ := Aside0.mk (hbox); have n2_ := zz HB hg; have n3_ := zz HB hg; clear HB; have HB := n0_; have BK101 := n1_; have GW101 := n2_; have GE101 := n3_; clear n0_ n1_ n2_ n3_; clear hb hbox hg) | ((with_reducible refine gate_dst (N := 2) rfl ?_); refine box_event ?hg (N := 2) ?hd (cs := #[.int .i64 0, .int .i64 0, .int .i64 0, .string (⟨#[]⟩ : ByteArray)]) (t := 41) ?hr ?_; (case hd => rfl); (case hg => rfl); (case hr => first | (go_simp; done) | (go_simp; rfl)); intro gb102 hg w4 hbox hb; have n0_ := zb BK101 hb; have n1_ := zs HB hb; have n2_ := Aside0.mk (hbox); have n3_ := zz HB hg; have n4_ := zz HB hg; have n5_ := zn BK101 hg; have n6_ := zm BK101 hg; clear BK101; clear HB; have BK101 := n0_; have HB := n1_; have BK102 := n2_; have GW102 := n3_; have GE102 := n4_; have NB101_102 := n5_; have NB102_101 := n6_; clear n0_ n1_ n2_ n3_ n4_ n5_ n6_; clear hb hbox hg; have hnb5 := NB101_102.out; have hnc5 := NB102_101.out; obtain ⟨hcz6_0, hcz6_1, hcz6_2, hcz6_3, hcz6_4⟩ := zc5 BK101; obtain ⟨hfz6_0, hfz6_1, hfz6_2, hfz6_3, hfz6_4⟩ := zf5 BK101) | ((with_reducible refine gate_dst (N := 4) rfl ?_); refine box_event ?hg (N := 4) ?hd (cs := #[.int .i64 0, .int .i64 0, .int .i64 0, .string (⟨#[]⟩ : ByteArray)]) (t := 41) ?hr ?_; (case hd => rfl); (case hg => rfl); (case hr => first | (go_simp; done) | (go_simp; rfl)); intro gb103 hg w7 hbox hb; have n0_ := zb BK101 hb; have n1_ := zb BK102 hb; have n2_ := zs HB hb; have n3_ := Aside0.mk (hbox); have n4_ := zz HB hg; have n5_ := zz HB hg; have n6_ := zn BK101 hg; have n7_ := zm BK101 hg; have n8_ := zn BK102 hg; have n9_ := zm BK102 hg; clear BK101; clear BK102; clear HB; have BK101 := n0_; have BK102 := n1_; have HB := n2_; have BK103 := n3_; have GW103 := n4_; have GE103 := n5_; have NB101_103 := n6_; have NB103_101 := n7_; have NB102_103 := n8_; have NB103_102 := n9_; clear n0_ n1_ n2_ n3_ n4_ n5_ n6_ n7_ n8_ n9_; clear hb hbox hg; have hnb8 := NB103_101.out; have hnc8 := NB101_103.out; have hnb9 := NB103_102.out; have hnc9 := NB102_103.out; obtain ⟨hcz10_0, hcz10_1, hcz10_2, hcz10_3⟩ := zc4 BK103; obtain ⟨hfz10_0, hfz10_1, hfz10_2, hfz10_3⟩ := zf4 BK103) | ((with_reducible refine gate_store (t := 41) (p := 4) rfl ?_); refine store_event (t := 41) (p := 4) (v := ?vo_w11) (w1 := ((((w7.setCell ⟨gb103, 0, none⟩ (.int .i64 a0_1)).setCell ⟨gb103, 1, none⟩ (.int .i64 (wrap64 (a0_2 + 1)))).setCell ⟨gb103, 2, none⟩ (.int .i64 0)).setCell ⟨gb103, 3, none⟩ (.string (⟨#[]⟩ : ByteArray)))) ?hg ?ho ?hn ?hr ?_; (case ho => rfl); (case hg => rfl); (case hn => rfl); (case hr => first | (go_simp; done) | (go_simp; rfl)); intro w11 hw; have n0_ := zw BK101 hw; have n1_ := zw BK102 hw; have n2_ : Aside0 (w11.heap[gb103]? = some (.cells #[.int .i64 a0_1, .int .i64 (wrap64 (a0_2 + 1)), .int .i64 0, .string (⟨#[]⟩ : ByteArray)] 41 (0, 0))) := ⟨(by rw [hw]; exact (by refine blk_put (cs := #[.int .i64 a0_1, .int .i64 (wrap64 (a0_2 + 1)), .int .i64 0, .string (⟨#[]⟩ : ByteArray)]) ?_ 3 _ rfl; refine blk_put (cs := #[.int .i64 a0_1, .int .i64 (wrap64 (a0_2 + 1)), .int .i64 0, .string (⟨#[]⟩ : ByteArray)]) ?_ 2 _ rfl; refine blk_put (cs := #[.int .i64 a0_1, .int .i64 0, .int .i64 0, .string (⟨#[]⟩ : ByteArray)]) ?_ 1 _ rfl; refine blk_put (cs := #[.int .i64 0, .int .i64 0, .int .i64 0, .string (⟨#[]⟩ : ByteArray)]) ?_ 0 _ rfl; (with_reducible repeat (first | refine blk_drewN ?_ _ | refine blk_drew ?_ | refine blk_alloc ?_ _)); exact BK103.out))⟩; have n3_ := zu HB hw; clear hw; clear BK101; clear BK102; clear BK103; clear HB; have BK101 := n0_; have BK102 := n1_; have BK103 := n2_; have HB := n3_; clear n0_ n1_ n2_ n3_))
  (try simp only [Act.put, List.setIfInBounds_toArray, List.set_cons_zero, List.set_cons_succ])
  go_cut [21] (fun v21 wc => ∃ (kq : Nat) (x21_1 : Bool), v21 = .bool x21_1 ∧ Aside0 (slipwayref02_Upper.j0 kq x21_1 a0_0 a0_1 a0_2 a0_3 a0_4 a0_1 (wrap64 (a0_2 + 1)) 0 (⟨#[]⟩ : ByteArray) = some (r1, r2, r3, r4, r5)) ∧ Aside0 (kq ≤ k) ∧ Aside0 (wc.heap[gb101]? = some (.cells #[.int .i64 a0_0, .int .i64 a0_1, .int .i64 a0_2, .int .i64 a0_3, .string a0_4] 53 (0, 0))) ∧ Aside0 (wc.heap[gb102]? = some (.cells #[.int .i64 0, .int .i64 0, .int .i64 0, .string (⟨#[]⟩ : ByteArray)] 41 (0, 0))) ∧ Aside0 (wc.heap[gb103]? = some (.cells #[.int .i64 a0_1, .int .i64 (wrap64 (a0_2 + 1)), .int .i64 0, .string (⟨#[]⟩ : ByteArray)] 41 (0, 0))) ∧ Aside0 (Below w.heap.size w wc))
  case first =>
    have H := HC2.out
    clear HC2
    by_cases c12 : a0_0 = 6
    · rw [if_pos c12] at H
      have c12b0 : (a0_0 == 6) = true := beq_iff_eq.mpr c12
      have c12b1 : (a0_0 != 6) = false := bne_eq_false_iff_eq.mpr c12
      clear c12
      (first | rw [c12b0] | (simp only [i64_w, i32_w]; rw [c12b0]) | skip)
      have H' := Aside0.mk H
      clear H
      have hnb13 := NB101_102.out
      have hnc13 := NB102_101.out
      have hnb14 := NB101_103.out
      have hnc14 := NB103_101.out
      obtain ⟨hcz15_0, hcz15_1, hcz15_2, hcz15_3, hcz15_4⟩ := zc5 BK101
      obtain ⟨hfz15_0, hfz15_1, hfz15_2, hfz15_3, hfz15_4⟩ := zf5 BK101
      go_wp2
      go_meet
      case rel => exact ⟨_, (decide (a0_1 > 0)), (by first | rfl | (simp; done) | (simp [*]; done)), H', ⟨by first | omega | exact Nat.le_refl _⟩, ⟨by (with_reducible repeat (first | refine blk_drewN ?_ _ | refine blk_drew ?_ | refine blk_alloc ?_ _)); exact BK101.out⟩, ⟨by (with_reducible repeat (first | refine blk_drewN ?_ _ | refine blk_drew ?_ | refine blk_alloc ?_ _)); exact BK102.out⟩, ⟨by (with_reducible repeat (first | refine blk_drewN ?_ _ | refine blk_drew ?_ | refine blk_alloc ?_ _)); exact BK103.out⟩, ⟨zB HB⟩⟩
    · rw [if_neg c12] at H
      have c12b0 : (a0_0 == 6) = false := beq_eq_false_iff_ne.mpr c12
      have c12b1 : (a0_0 != 6) = true := bne_iff_ne.mpr c12
      (first | rw [c12b0] | (simp only [i64_w, i32_w]; rw [c12b0]) | skip)
      have H' := Aside0.mk H
      clear H
      have hnb16 := NB101_102.out
      have hnc16 := NB102_101.out
      have hnb17 := NB101_103.out
      have hnc17 := NB103_101.out
      obtain ⟨hcz18_0, hcz18_1, hcz18_2, hcz18_3, hcz18_4⟩ := zc5 BK101
      obtain ⟨hfz18_0, hfz18_1, hfz18_2, hfz18_3, hfz18_4⟩ := zf5 BK101
      go_wp2
      go_meet
      case rel => exact ⟨_, (false), (by first | rfl | (simp; done) | (simp [*]; done)), H', ⟨by first | omega | exact Nat.le_refl _⟩, ⟨by (with_reducible repeat (first | refine blk_drewN ?_ _ | refine blk_drew ?_ | refine blk_alloc ?_ _)); exact BK101.out⟩, ⟨by (with_reducible repeat (first | refine blk_drewN ?_ _ | refine blk_drew ?_ | refine blk_alloc ?_ _)); exact BK102.out⟩, ⟨by (with_reducible repeat (first | refine blk_drewN ?_ _ | refine blk_drew ?_ | refine blk_alloc ?_ _)); exact BK103.out⟩, ⟨zB HB⟩⟩
  case rest =>
    clear HC2
    try clear c1
    try clear c2
    try clear p2
    try clear c5
    try clear p6
    try clear c8
    try clear c9
    try clear c12
    try clear c12b0
    try clear c12b1
    try clear c13
    try clear c14
    try clear c16
    try clear c17
    try clear hcz10_0
    try clear hcz10_1
    try clear hcz10_2
    try clear hcz10_3
    try clear hcz15_0
    try clear hcz15_1
    try clear hcz15_2
    try clear hcz15_3
    try clear hcz15_4
    try clear hcz18_0
    try clear hcz18_1
    try clear hcz18_2
    try clear hcz18_3
    try clear hcz18_4
    try clear hcz6_0
    try clear hcz6_1
    try clear hcz6_2
    try clear hcz6_3
    try clear hcz6_4
    try clear hfz10_0
    try clear hfz10_1
    try clear hfz10_2
    try clear hfz10_3
    try clear hfz15_0
    try clear hfz15_1
    try clear hfz15_2
    try clear hfz15_3
    try clear hfz15_4
    try clear hfz18_0
    try clear hfz18_1
    try clear hfz18_2
    try clear hfz18_3
    try clear hfz18_4
    try clear hfz6_0
    try clear hfz6_1
    try clear hfz6_2
    try clear hfz6_3
    try clear hfz6_4
    obtain ⟨kq, x21_1, rfl, HA, HJ1, BK101, BK102, BK103, HB⟩ := hcut
    cases kq with
    | zero => exact absurd HA.out (by simp [slipwayref02_Upper.j0])
    | succ kj1 =>
      have H := HA.out
      clear HA
      simp only [slipwayref02_Upper.j0] at H
      by_cases c19 : x21_1 = true
      · subst c19
        have H1 : ((slipwayref01_Version_Right.f (wrap64 (a0_1 + 1)) 0 0 (⟨#[]⟩ : ByteArray)).bind fun t104 => (some (wrap64 (a0_1 + 1), 0, 0, (⟨#[]⟩ : ByteArray), t104))) = some (r1, r2, r3, r4, r5) := by rw [if_pos rfl] at H; exact H
        clear H
        have H := H1
        clear H1
        replace H := Option.bind_eq_some_iff.mp H
        obtain ⟨t104, A200, H⟩ := H
        replace H : (some (wrap64 (a0_1 + 1), 0, 0, (⟨#[]⟩ : ByteArray), t104)) = some (r1, r2, r3, r4, r5) := H
        have A20 := Aside0.mk A200
        clear A200
        simp only [Option.some.injEq, Prod.mk.injEq] at H
        obtain ⟨rfl, rfl, rfl, rfl, rfl⟩ := H
        have hnb21 := NB101_102.out
        have hnc21 := NB102_101.out
        have hnb22 := NB101_103.out
        have hnc22 := NB103_101.out
        obtain ⟨hcz23_0, hcz23_1, hcz23_2, hcz23_3, hcz23_4⟩ := zc5 BK101
        obtain ⟨hfz23_0, hfz23_1, hfz23_2, hfz23_3, hfz23_4⟩ := zf5 BK101
        have hnb24 := NB103_102.out
        have hnc24 := NB102_103.out
        obtain ⟨hcz25_0, hcz25_1, hcz25_2, hcz25_3⟩ := zc4 BK103
        obtain ⟨hfz25_0, hfz25_1, hfz25_2, hfz25_3⟩ := zf4 BK103
        try go_wp2_with (first | ((with_reducible refine gate_store (t := 41) (p := 4) rfl ?_); refine store_event (t := 41) (p := 4) (v := ?vo_w26) (w1 := ((((wc.setCell ⟨gb103, 0, none⟩ (.int .i64 (wrap64 (a0_1 + 1)))).setCell ⟨gb103, 1, none⟩ (.int .i64 0)).setCell ⟨gb103, 2, none⟩ (.int .i64 0)).setCell ⟨gb103, 3, none⟩ (.string (⟨#[]⟩ : ByteArray)))) ?hg ?ho ?hn ?hr ?_; (case ho => rfl); (case hg => rfl); (case hn => rfl); (case hr => first | (go_simp; done) | (go_simp; rfl)); intro w26 hw; have n0_ := zw BK101 hw; have n1_ := zw BK102 hw; have n2_ : Aside0 (w26.heap[gb103]? = some (.cells #[.int .i64 (wrap64 (a0_1 + 1)), .int .i64 0, .int .i64 0, .string (⟨#[]⟩ : ByteArray)] 41 (0, 0))) := ⟨(by rw [hw]; exact (by refine blk_put (cs := #[.int .i64 (wrap64 (a0_1 + 1)), .int .i64 0, .int .i64 0, .string (⟨#[]⟩ : ByteArray)]) ?_ 3 _ rfl; refine blk_put (cs := #[.int .i64 (wrap64 (a0_1 + 1)), .int .i64 0, .int .i64 0, .string (⟨#[]⟩ : ByteArray)]) ?_ 2 _ rfl; refine blk_put (cs := #[.int .i64 (wrap64 (a0_1 + 1)), .int .i64 (wrap64 (a0_2 + 1)), .int .i64 0, .string (⟨#[]⟩ : ByteArray)]) ?_ 1 _ rfl; refine blk_put (cs := #[.int .i64 a0_1, .int .i64 (wrap64 (a0_2 + 1)), .int .i64 0, .string (⟨#[]⟩ : ByteArray)]) ?_ 0 _ rfl; (with_reducible repeat (first | refine blk_drewN ?_ _ | refine blk_drew ?_ | refine blk_alloc ?_ _)); exact BK103.out))⟩; have n3_ := zu HB hw; clear hw; clear BK101; clear BK102; clear BK103; clear HB; have BK101 := n0_; have BK102 := n1_; have BK103 := n2_; have HB := n3_; clear n0_ n1_ n2_ n3_))
        have n0_ := Aside0.mk (blk_drew BK101.out)
        have n1_ := Aside0.mk (blk_drew BK102.out)
        have n2_ := Aside0.mk (blk_drew BK103.out)
        have n3_ := Aside0.mk (below_drew1 HB.out)
        clear BK101
        clear BK102
        clear BK103
        clear HB
        have BK101 := n0_
        have BK102 := n1_
        have BK103 := n2_
        have HB := n3_
        clear n0_ n1_ n2_ n3_
        refine start_ (n := 5) (S := fun w' => w'.cell? ⟨gb103, 0, none⟩ = some (.int .i64 (wrap64 (a0_1 + 1))) ∧ w'.cell? ⟨gb103, 1, none⟩ = some (.int .i64 0) ∧ w'.cell? ⟨gb103, 2, none⟩ = some (.int .i64 0) ∧ w'.cell? ⟨gb103, 3, none⟩ = some (.string (⟨#[]⟩ : ByteArray))) (ds := []) #[false, false, false, false, false] (by kernel_rfl) rfl rfl ⟨(blk_cell BK103.out 0).trans rfl, (blk_cell BK103.out 1).trans rfl, (blk_cell BK103.out 2).trans rfl, (blk_cell BK103.out 3).trans rfl⟩ (fun hHeld => ?_)
        generalize w26.drew = w27 at BK101 BK102 BK103 HB hHeld ⊢
        refine take_ (i := 0) (N := some 41) (v := ?_) (a' := ?_) #[true, false, false, false, false] rfl rfl (by kernel_rfl) (fun _ _ _ h => h) (Or.inl ⟨by rfl, ?_⟩) hHeld ?_ ?_
        rotate_left
        · rintro w' ⟨s0, s1, s2, s3⟩
          go_simp
          with_reducible rfl
        rotate_left
        · simp only [Act.put, List.setIfInBounds_toArray, List.set_cons_zero, List.set_cons_succ, i64_w, i32_w]
          rfl
        refine take_ (i := 1) (N := some 42) (v := ?_) (a' := ?_) #[true, true, false, false, false] rfl rfl (by kernel_rfl) (fun _ _ _ h => h) (Or.inl ⟨by rfl, ?_⟩) hHeld ?_ ?_
        rotate_left
        · rintro w' ⟨s0, s1, s2, s3⟩
          go_simp
          with_reducible rfl
        rotate_left
        · simp only [Act.put, List.setIfInBounds_toArray, List.set_cons_zero, List.set_cons_succ, i64_w, i32_w]
          rfl
        refine one_ (i := 2) (N := some 43) #[true, true, true, false, false] rfl rfl (by kernel_rfl) (by decide) (fun K hK => ?_)
        refine goes_ Tryz.func38 (by kernel_rfl) rfl #[.agg #[.int .i64 (wrap64 (a0_1 + 1)), .int .i64 0, .int .i64 0, .string (⟨#[]⟩ : ByteArray)]] (by rfl) rfl rfl (by (try simp only [List.map_toArray, List.map_cons, List.map_nil]); first | done | rfl | (simp only [List.length_drop, List.length_take]; rfl)) ?_
        with_reducible refine (slipwayref01_Version_Right.calls (wrap64 (a0_1 + 1)) 0 0 (⟨#[]⟩ : ByteArray) t104 _ A20.out).mono ?_
        rintro e w28 ⟨rfl, hb⟩
        refine ⟨_, rfl, ?_⟩
        have n0_ := zb BK101 hb
        have n1_ := zb BK102 hb
        have n2_ := zb BK103 hb
        have n3_ := zs HB hb
        clear BK101
        clear BK102
        clear BK103
        clear HB
        have BK101 := n0_
        have BK102 := n1_
        have BK103 := n2_
        have HB := n3_
        clear n0_ n1_ n2_ n3_
        (try clear hb)
        (try clear hb2)
        (try clear hk)
        (try clear hi)
        refine hK.out _ _ ⟨(blk_cell BK103.out 0).trans rfl, (blk_cell BK103.out 1).trans rfl, (blk_cell BK103.out 2).trans rfl, (blk_cell BK103.out 3).trans rfl⟩ (fun hHeld => ?_)
        clear hK K
        refine norm_ (a' := ?_) ?_ ?_
        rotate_left
        · show Act.put _ (some 43) _ = _
          simp only [Act.put, List.setIfInBounds_toArray, List.set_cons_zero, List.set_cons_succ, i64_w, i32_w]
          rfl
        refine one_ (i := 3) (N := none) #[true, true, true, true, false] rfl rfl (by kernel_rfl) (by decide) (fun K hK => ?_)
        have hs29 : w28.cell? ⟨gb102, 0, none⟩ = some (.int .i64 0) := (blk_cell BK102.out 0).trans rfl
        have hfs29 := blk_frozen BK102.out 0
        have hns29_0 := NB101_102.out
        have hns29_2 := NB103_102.out
        have hms29_0 := NB102_101.out
        have hms29_2 := NB102_103.out
        have hs30 : w28.cell? ⟨gb102, 1, none⟩ = some (.int .i64 0) := (blk_cell BK102.out 1).trans rfl
        have hfs30 := blk_frozen BK102.out 1
        have hns30_0 := NB101_102.out
        have hns30_2 := NB103_102.out
        have hms30_0 := NB102_101.out
        have hms30_2 := NB102_103.out
        have hs31 : w28.cell? ⟨gb102, 2, none⟩ = some (.int .i64 0) := (blk_cell BK102.out 2).trans rfl
        have hfs31 := blk_frozen BK102.out 2
        have hns31_0 := NB101_102.out
        have hns31_2 := NB103_102.out
        have hms31_0 := NB102_101.out
        have hms31_2 := NB102_103.out
        have hs32 : w28.cell? ⟨gb102, 3, none⟩ = some (.string (⟨#[]⟩ : ByteArray)) := (blk_cell BK102.out 3).trans rfl
        have hfs32 := blk_frozen BK102.out 3
        have hns32_0 := NB101_102.out
        have hns32_2 := NB103_102.out
        have hms32_0 := NB102_101.out
        have hms32_2 := NB102_103.out
        refine skip_ (w1 := ?_) (by rfl) rfl ?_ ?_
        rotate_left
        · go_simp
          rfl
        refine hK.out _ _ ⟨((cell_far (p := ⟨gb102, _, none⟩) NB103_102.out _).trans (((cell_far (p := ⟨gb102, _, none⟩) NB103_102.out _).trans (((cell_far (p := ⟨gb102, _, none⟩) NB103_102.out _).trans (((cell_far (p := ⟨gb102, _, none⟩) NB103_102.out _).trans (hHeld.1)))))))), ((cell_far (p := ⟨gb102, _, none⟩) NB103_102.out _).trans (((cell_far (p := ⟨gb102, _, none⟩) NB103_102.out _).trans (((cell_far (p := ⟨gb102, _, none⟩) NB103_102.out _).trans (((cell_far (p := ⟨gb102, _, none⟩) NB103_102.out _).trans (hHeld.2.1)))))))), ((cell_far (p := ⟨gb102, _, none⟩) NB103_102.out _).trans (((cell_far (p := ⟨gb102, _, none⟩) NB103_102.out _).trans (((cell_far (p := ⟨gb102, _, none⟩) NB103_102.out _).trans (((cell_far (p := ⟨gb102, _, none⟩) NB103_102.out _).trans (hHeld.2.2.1)))))))), ((cell_far (p := ⟨gb102, _, none⟩) NB103_102.out _).trans (((cell_far (p := ⟨gb102, _, none⟩) NB103_102.out _).trans (((cell_far (p := ⟨gb102, _, none⟩) NB103_102.out _).trans (((cell_far (p := ⟨gb102, _, none⟩) NB103_102.out _).trans (hHeld.2.2.2))))))))⟩ (fun hHeld => ?_)
        clear hK K
        refine pure_ (i := 4) (N := some 3) (v := ?_) (a' := ?_) #[true, true, true, true, true] rfl rfl (by kernel_rfl) (fun _ _ _ h => h) (Or.inl ⟨by rfl, ?_⟩) ?_ ?_
        rotate_left
        · intro w'
          go_simp
          with_reducible rfl
        rotate_left
        · simp only [Act.put, List.setIfInBounds_toArray, List.set_cons_zero, List.set_cons_succ, i64_w, i32_w]
          rfl
        refine done_ (by kernel_rfl) ?_
        try go_wp2
        refine bodyPost_ret (results_ct rfl _ _ gb102 41 #[.int .i64 (wrap64 (a0_1 + 1)), .int .i64 0, .int .i64 0, .string (⟨#[]⟩ : ByteArray)] (0, 0) _ rfl (by refine blk_put (cs := #[.int .i64 (wrap64 (a0_1 + 1)), .int .i64 0, .int .i64 0, .string (⟨#[]⟩ : ByteArray)]) ?_ 3 _ rfl; refine blk_put (cs := #[.int .i64 (wrap64 (a0_1 + 1)), .int .i64 0, .int .i64 0, .string (⟨#[]⟩ : ByteArray)]) ?_ 2 _ rfl; refine blk_put (cs := #[.int .i64 (wrap64 (a0_1 + 1)), .int .i64 0, .int .i64 0, .string (⟨#[]⟩ : ByteArray)]) ?_ 1 _ rfl; refine blk_put (cs := #[.int .i64 0, .int .i64 0, .int .i64 0, .string (⟨#[]⟩ : ByteArray)]) ?_ 0 _ rfl; (with_reducible repeat (first | refine blk_drewN ?_ _ | refine blk_drew ?_ | refine blk_alloc ?_ _)); exact BK102.out) Tryz.underlying41 rfl (by kernel_rfl)) rfl ?_
        exact ⟨by first | rfl | (simp [errW_none, errW_some] <;> rfl) | (simp [*, errW_none, errW_some] <;> rfl), zB HB⟩
      · replace c19 := Bool.eq_false_iff.mpr c19
        subst c19
        have H1 : (if a0_0 = 6 then (if a0_2 = 0 then ((slipwayref01_Version_Right.f 0 0 (wrap64 (a0_3 + 1)) (⟨#[]⟩ : ByteArray)).bind fun t105 => (some (0, 0, wrap64 (a0_3 + 1), (⟨#[]⟩ : ByteArray), t105))) else ((slipwayref01_Version_Right.f a0_1 (wrap64 (a0_2 + 1)) 0 (⟨#[]⟩ : ByteArray)).bind fun t106 => (some (a0_1, (wrap64 (a0_2 + 1)), 0, (⟨#[]⟩ : ByteArray), t106)))) else ((slipwayref01_Version_Right.f a0_1 (wrap64 (a0_2 + 1)) 0 (⟨#[]⟩ : ByteArray)).bind fun t107 => (some (a0_1, (wrap64 (a0_2 + 1)), 0, (⟨#[]⟩ : ByteArray), t107)))) = some (r1, r2, r3, r4, r5) := by rw [if_neg (show ¬ (false = true) by decide)] at H; exact H
        clear H
        have H := H1
        clear H1
        by_cases c33 : a0_0 = 6
        · rw [if_pos c33] at H
          have c33b0 : (a0_0 == 6) = true := beq_iff_eq.mpr c33
          have c33b1 : (a0_0 != 6) = false := bne_eq_false_iff_eq.mpr c33
          clear c33
          by_cases c34 : a0_2 = 0
          · rw [if_pos c34] at H
            have c34b0 : (a0_2 == 0) = true := beq_iff_eq.mpr c34
            have c34b1 : (a0_2 != 0) = false := bne_eq_false_iff_eq.mpr c34
            clear c34
            replace H := Option.bind_eq_some_iff.mp H
            obtain ⟨t105, A350, H⟩ := H
            replace H : (some (0, 0, wrap64 (a0_3 + 1), (⟨#[]⟩ : ByteArray), t105)) = some (r1, r2, r3, r4, r5) := H
            have A35 := Aside0.mk A350
            clear A350
            simp only [Option.some.injEq, Prod.mk.injEq] at H
            obtain ⟨rfl, rfl, rfl, rfl, rfl⟩ := H
            have hnb36 := NB101_102.out
            have hnc36 := NB102_101.out
            have hnb37 := NB101_103.out
            have hnc37 := NB103_101.out
            obtain ⟨hcz38_0, hcz38_1, hcz38_2, hcz38_3, hcz38_4⟩ := zc5 BK101
            obtain ⟨hfz38_0, hfz38_1, hfz38_2, hfz38_3, hfz38_4⟩ := zf5 BK101
            have hnb39 := NB103_102.out
            have hnc39 := NB102_103.out
            obtain ⟨hcz40_0, hcz40_1, hcz40_2, hcz40_3⟩ := zc4 BK103
            obtain ⟨hfz40_0, hfz40_1, hfz40_2, hfz40_3⟩ := zf4 BK103
            try go_wp2_with (first | ((with_reducible refine gate_store (t := 41) (p := 4) rfl ?_); refine store_event (t := 41) (p := 4) (v := ?vo_w41) (w1 := ((((wc.setCell ⟨gb103, 0, none⟩ (.int .i64 0)).setCell ⟨gb103, 1, none⟩ (.int .i64 0)).setCell ⟨gb103, 2, none⟩ (.int .i64 (wrap64 (a0_3 + 1)))).setCell ⟨gb103, 3, none⟩ (.string (⟨#[]⟩ : ByteArray)))) ?hg ?ho ?hn ?hr ?_; (case ho => rfl); (case hg => rfl); (case hn => rfl); (case hr => first | (go_simp; done) | (go_simp; rfl)); intro w41 hw; have n0_ := zw BK101 hw; have n1_ := zw BK102 hw; have n2_ : Aside0 (w41.heap[gb103]? = some (.cells #[.int .i64 0, .int .i64 0, .int .i64 (wrap64 (a0_3 + 1)), .string (⟨#[]⟩ : ByteArray)] 41 (0, 0))) := ⟨(by rw [hw]; exact (by refine blk_put (cs := #[.int .i64 0, .int .i64 0, .int .i64 (wrap64 (a0_3 + 1)), .string (⟨#[]⟩ : ByteArray)]) ?_ 3 _ rfl; refine blk_put (cs := #[.int .i64 0, .int .i64 0, .int .i64 0, .string (⟨#[]⟩ : ByteArray)]) ?_ 2 _ rfl; refine blk_put (cs := #[.int .i64 0, .int .i64 (wrap64 (a0_2 + 1)), .int .i64 0, .string (⟨#[]⟩ : ByteArray)]) ?_ 1 _ rfl; refine blk_put (cs := #[.int .i64 a0_1, .int .i64 (wrap64 (a0_2 + 1)), .int .i64 0, .string (⟨#[]⟩ : ByteArray)]) ?_ 0 _ rfl; (with_reducible repeat (first | refine blk_drewN ?_ _ | refine blk_drew ?_ | refine blk_alloc ?_ _)); exact BK103.out))⟩; have n3_ := zu HB hw; clear hw; clear BK101; clear BK102; clear BK103; clear HB; have BK101 := n0_; have BK102 := n1_; have BK103 := n2_; have HB := n3_; clear n0_ n1_ n2_ n3_))
            have n0_ := Aside0.mk (blk_drew BK101.out)
            have n1_ := Aside0.mk (blk_drew BK102.out)
            have n2_ := Aside0.mk (blk_drew BK103.out)
            have n3_ := Aside0.mk (below_drew1 HB.out)
            clear BK101
            clear BK102
            clear BK103
            clear HB
            have BK101 := n0_
            have BK102 := n1_
            have BK103 := n2_
            have HB := n3_
            clear n0_ n1_ n2_ n3_
            refine start_ (n := 5) (S := fun w' => w'.cell? ⟨gb103, 0, none⟩ = some (.int .i64 0) ∧ w'.cell? ⟨gb103, 1, none⟩ = some (.int .i64 0) ∧ w'.cell? ⟨gb103, 2, none⟩ = some (.int .i64 (wrap64 (a0_3 + 1))) ∧ w'.cell? ⟨gb103, 3, none⟩ = some (.string (⟨#[]⟩ : ByteArray))) (ds := []) #[false, false, false, false, false] (by kernel_rfl) rfl rfl ⟨(blk_cell BK103.out 0).trans rfl, (blk_cell BK103.out 1).trans rfl, (blk_cell BK103.out 2).trans rfl, (blk_cell BK103.out 3).trans rfl⟩ (fun hHeld => ?_)
            generalize w41.drew = w42 at BK101 BK102 BK103 HB hHeld ⊢
            refine take_ (i := 0) (N := some 41) (v := ?_) (a' := ?_) #[true, false, false, false, false] rfl rfl (by kernel_rfl) (fun _ _ _ h => h) (Or.inl ⟨by rfl, ?_⟩) hHeld ?_ ?_
            rotate_left
            · rintro w' ⟨s0, s1, s2, s3⟩
              go_simp
              with_reducible rfl
            rotate_left
            · simp only [Act.put, List.setIfInBounds_toArray, List.set_cons_zero, List.set_cons_succ, i64_w, i32_w]
              rfl
            refine take_ (i := 1) (N := some 42) (v := ?_) (a' := ?_) #[true, true, false, false, false] rfl rfl (by kernel_rfl) (fun _ _ _ h => h) (Or.inl ⟨by rfl, ?_⟩) hHeld ?_ ?_
            rotate_left
            · rintro w' ⟨s0, s1, s2, s3⟩
              go_simp
              with_reducible rfl
            rotate_left
            · simp only [Act.put, List.setIfInBounds_toArray, List.set_cons_zero, List.set_cons_succ, i64_w, i32_w]
              rfl
            refine one_ (i := 2) (N := some 43) #[true, true, true, false, false] rfl rfl (by kernel_rfl) (by decide) (fun K hK => ?_)
            refine goes_ Tryz.func38 (by kernel_rfl) rfl #[.agg #[.int .i64 0, .int .i64 0, .int .i64 (wrap64 (a0_3 + 1)), .string (⟨#[]⟩ : ByteArray)]] (by rfl) rfl rfl (by (try simp only [List.map_toArray, List.map_cons, List.map_nil]); first | done | rfl | (simp only [List.length_drop, List.length_take]; rfl)) ?_
            with_reducible refine (slipwayref01_Version_Right.calls 0 0 (wrap64 (a0_3 + 1)) (⟨#[]⟩ : ByteArray) t105 _ A35.out).mono ?_
            rintro e w43 ⟨rfl, hb⟩
            refine ⟨_, rfl, ?_⟩
            have n0_ := zb BK101 hb
            have n1_ := zb BK102 hb
            have n2_ := zb BK103 hb
            have n3_ := zs HB hb
            clear BK101
            clear BK102
            clear BK103
            clear HB
            have BK101 := n0_
            have BK102 := n1_
            have BK103 := n2_
            have HB := n3_
            clear n0_ n1_ n2_ n3_
            (try clear hb)
            (try clear hb2)
            (try clear hk)
            (try clear hi)
            refine hK.out _ _ ⟨(blk_cell BK103.out 0).trans rfl, (blk_cell BK103.out 1).trans rfl, (blk_cell BK103.out 2).trans rfl, (blk_cell BK103.out 3).trans rfl⟩ (fun hHeld => ?_)
            clear hK K
            refine norm_ (a' := ?_) ?_ ?_
            rotate_left
            · show Act.put _ (some 43) _ = _
              simp only [Act.put, List.setIfInBounds_toArray, List.set_cons_zero, List.set_cons_succ, i64_w, i32_w]
              rfl
            refine one_ (i := 3) (N := none) #[true, true, true, true, false] rfl rfl (by kernel_rfl) (by decide) (fun K hK => ?_)
            have hs44 : w43.cell? ⟨gb102, 0, none⟩ = some (.int .i64 0) := (blk_cell BK102.out 0).trans rfl
            have hfs44 := blk_frozen BK102.out 0
            have hns44_0 := NB101_102.out
            have hns44_2 := NB103_102.out
            have hms44_0 := NB102_101.out
            have hms44_2 := NB102_103.out
            have hs45 : w43.cell? ⟨gb102, 1, none⟩ = some (.int .i64 0) := (blk_cell BK102.out 1).trans rfl
            have hfs45 := blk_frozen BK102.out 1
            have hns45_0 := NB101_102.out
            have hns45_2 := NB103_102.out
            have hms45_0 := NB102_101.out
            have hms45_2 := NB102_103.out
            have hs46 : w43.cell? ⟨gb102, 2, none⟩ = some (.int .i64 0) := (blk_cell BK102.out 2).trans rfl
            have hfs46 := blk_frozen BK102.out 2
            have hns46_0 := NB101_102.out
            have hns46_2 := NB103_102.out
            have hms46_0 := NB102_101.out
            have hms46_2 := NB102_103.out
            have hs47 : w43.cell? ⟨gb102, 3, none⟩ = some (.string (⟨#[]⟩ : ByteArray)) := (blk_cell BK102.out 3).trans rfl
            have hfs47 := blk_frozen BK102.out 3
            have hns47_0 := NB101_102.out
            have hns47_2 := NB103_102.out
            have hms47_0 := NB102_101.out
            have hms47_2 := NB102_103.out
            refine skip_ (w1 := ?_) (by rfl) rfl ?_ ?_
            rotate_left
            · go_simp
              rfl
            refine hK.out _ _ ⟨((cell_far (p := ⟨gb102, _, none⟩) NB103_102.out _).trans (((cell_far (p := ⟨gb102, _, none⟩) NB103_102.out _).trans (((cell_far (p := ⟨gb102, _, none⟩) NB103_102.out _).trans (((cell_far (p := ⟨gb102, _, none⟩) NB103_102.out _).trans (hHeld.1)))))))), ((cell_far (p := ⟨gb102, _, none⟩) NB103_102.out _).trans (((cell_far (p := ⟨gb102, _, none⟩) NB103_102.out _).trans (((cell_far (p := ⟨gb102, _, none⟩) NB103_102.out _).trans (((cell_far (p := ⟨gb102, _, none⟩) NB103_102.out _).trans (hHeld.2.1)))))))), ((cell_far (p := ⟨gb102, _, none⟩) NB103_102.out _).trans (((cell_far (p := ⟨gb102, _, none⟩) NB103_102.out _).trans (((cell_far (p := ⟨gb102, _, none⟩) NB103_102.out _).trans (((cell_far (p := ⟨gb102, _, none⟩) NB103_102.out _).trans (hHeld.2.2.1)))))))), ((cell_far (p := ⟨gb102, _, none⟩) NB103_102.out _).trans (((cell_far (p := ⟨gb102, _, none⟩) NB103_102.out _).trans (((cell_far (p := ⟨gb102, _, none⟩) NB103_102.out _).trans (((cell_far (p := ⟨gb102, _, none⟩) NB103_102.out _).trans (hHeld.2.2.2))))))))⟩ (fun hHeld => ?_)
            clear hK K
            refine pure_ (i := 4) (N := some 3) (v := ?_) (a' := ?_) #[true, true, true, true, true] rfl rfl (by kernel_rfl) (fun _ _ _ h => h) (Or.inl ⟨by rfl, ?_⟩) ?_ ?_
            rotate_left
            · intro w'
              go_simp
              with_reducible rfl
            rotate_left
            · simp only [Act.put, List.setIfInBounds_toArray, List.set_cons_zero, List.set_cons_succ, i64_w, i32_w]
              rfl
            refine done_ (by kernel_rfl) ?_
            try go_wp2
            refine bodyPost_ret (results_ct rfl _ _ gb102 41 #[.int .i64 0, .int .i64 0, .int .i64 (wrap64 (a0_3 + 1)), .string (⟨#[]⟩ : ByteArray)] (0, 0) _ rfl (by refine blk_put (cs := #[.int .i64 0, .int .i64 0, .int .i64 (wrap64 (a0_3 + 1)), .string (⟨#[]⟩ : ByteArray)]) ?_ 3 _ rfl; refine blk_put (cs := #[.int .i64 0, .int .i64 0, .int .i64 0, .string (⟨#[]⟩ : ByteArray)]) ?_ 2 _ rfl; refine blk_put (cs := #[.int .i64 0, .int .i64 0, .int .i64 0, .string (⟨#[]⟩ : ByteArray)]) ?_ 1 _ rfl; refine blk_put (cs := #[.int .i64 0, .int .i64 0, .int .i64 0, .string (⟨#[]⟩ : ByteArray)]) ?_ 0 _ rfl; (with_reducible repeat (first | refine blk_drewN ?_ _ | refine blk_drew ?_ | refine blk_alloc ?_ _)); exact BK102.out) Tryz.underlying41 rfl (by kernel_rfl)) rfl ?_
            exact ⟨by first | rfl | (simp [errW_none, errW_some] <;> rfl) | (simp [*, errW_none, errW_some] <;> rfl), zB HB⟩
          · rw [if_neg c34] at H
            have c34b0 : (a0_2 == 0) = false := beq_eq_false_iff_ne.mpr c34
            have c34b1 : (a0_2 != 0) = true := bne_iff_ne.mpr c34
            replace H := Option.bind_eq_some_iff.mp H
            obtain ⟨t106, A480, H⟩ := H
            replace H : (some (a0_1, (wrap64 (a0_2 + 1)), 0, (⟨#[]⟩ : ByteArray), t106)) = some (r1, r2, r3, r4, r5) := H
            have A48 := Aside0.mk A480
            clear A480
            simp only [Option.some.injEq, Prod.mk.injEq] at H
            obtain ⟨rfl, rfl, rfl, rfl, rfl⟩ := H
            have hnb49 := NB101_102.out
            have hnc49 := NB102_101.out
            have hnb50 := NB101_103.out
            have hnc50 := NB103_101.out
            obtain ⟨hcz51_0, hcz51_1, hcz51_2, hcz51_3, hcz51_4⟩ := zc5 BK101
            obtain ⟨hfz51_0, hfz51_1, hfz51_2, hfz51_3, hfz51_4⟩ := zf5 BK101
            try go_wp2
            have n0_ := Aside0.mk (blk_drew BK101.out)
            have n1_ := Aside0.mk (blk_drew BK102.out)
            have n2_ := Aside0.mk (blk_drew BK103.out)
            have n3_ := Aside0.mk (below_drew1 HB.out)
            clear BK101
            clear BK102
            clear BK103
            clear HB
            have BK101 := n0_
            have BK102 := n1_
            have BK103 := n2_
            have HB := n3_
            clear n0_ n1_ n2_ n3_
            refine start_ (n := 5) (S := fun w' => w'.cell? ⟨gb103, 0, none⟩ = some (.int .i64 a0_1) ∧ w'.cell? ⟨gb103, 1, none⟩ = some (.int .i64 (wrap64 (a0_2 + 1))) ∧ w'.cell? ⟨gb103, 2, none⟩ = some (.int .i64 0) ∧ w'.cell? ⟨gb103, 3, none⟩ = some (.string (⟨#[]⟩ : ByteArray))) (ds := []) #[false, false, false, false, false] (by kernel_rfl) rfl rfl ⟨(blk_cell BK103.out 0).trans rfl, (blk_cell BK103.out 1).trans rfl, (blk_cell BK103.out 2).trans rfl, (blk_cell BK103.out 3).trans rfl⟩ (fun hHeld => ?_)
            generalize wc.drew = w52 at BK101 BK102 BK103 HB hHeld ⊢
            refine take_ (i := 0) (N := some 41) (v := ?_) (a' := ?_) #[true, false, false, false, false] rfl rfl (by kernel_rfl) (fun _ _ _ h => h) (Or.inl ⟨by rfl, ?_⟩) hHeld ?_ ?_
            rotate_left
            · rintro w' ⟨s0, s1, s2, s3⟩
              go_simp
              with_reducible rfl
            rotate_left
            · simp only [Act.put, List.setIfInBounds_toArray, List.set_cons_zero, List.set_cons_succ, i64_w, i32_w]
              rfl
            refine take_ (i := 1) (N := some 42) (v := ?_) (a' := ?_) #[true, true, false, false, false] rfl rfl (by kernel_rfl) (fun _ _ _ h => h) (Or.inl ⟨by rfl, ?_⟩) hHeld ?_ ?_
            rotate_left
            · rintro w' ⟨s0, s1, s2, s3⟩
              go_simp
              with_reducible rfl
            rotate_left
            · simp only [Act.put, List.setIfInBounds_toArray, List.set_cons_zero, List.set_cons_succ, i64_w, i32_w]
              rfl
            refine one_ (i := 2) (N := some 43) #[true, true, true, false, false] rfl rfl (by kernel_rfl) (by decide) (fun K hK => ?_)
            refine goes_ Tryz.func38 (by kernel_rfl) rfl #[.agg #[.int .i64 a0_1, .int .i64 (wrap64 (a0_2 + 1)), .int .i64 0, .string (⟨#[]⟩ : ByteArray)]] (by rfl) rfl rfl (by (try simp only [List.map_toArray, List.map_cons, List.map_nil]); first | done | rfl | (simp only [List.length_drop, List.length_take]; rfl)) ?_
            with_reducible refine (slipwayref01_Version_Right.calls a0_1 (wrap64 (a0_2 + 1)) 0 (⟨#[]⟩ : ByteArray) t106 _ A48.out).mono ?_
            rintro e w53 ⟨rfl, hb⟩
            refine ⟨_, rfl, ?_⟩
            have n0_ := zb BK101 hb
            have n1_ := zb BK102 hb
            have n2_ := zb BK103 hb
            have n3_ := zs HB hb
            clear BK101
            clear BK102
            clear BK103
            clear HB
            have BK101 := n0_
            have BK102 := n1_
            have BK103 := n2_
            have HB := n3_
            clear n0_ n1_ n2_ n3_
            (try clear hb)
            (try clear hb2)
            (try clear hk)
            (try clear hi)
            refine hK.out _ _ ⟨(blk_cell BK103.out 0).trans rfl, (blk_cell BK103.out 1).trans rfl, (blk_cell BK103.out 2).trans rfl, (blk_cell BK103.out 3).trans rfl⟩ (fun hHeld => ?_)
            clear hK K
            refine norm_ (a' := ?_) ?_ ?_
            rotate_left
            · show Act.put _ (some 43) _ = _
              simp only [Act.put, List.setIfInBounds_toArray, List.set_cons_zero, List.set_cons_succ, i64_w, i32_w]
              rfl
            refine one_ (i := 3) (N := none) #[true, true, true, true, false] rfl rfl (by kernel_rfl) (by decide) (fun K hK => ?_)
            have hs54 : w53.cell? ⟨gb102, 0, none⟩ = some (.int .i64 0) := (blk_cell BK102.out 0).trans rfl
            have hfs54 := blk_frozen BK102.out 0
            have hns54_0 := NB101_102.out
            have hns54_2 := NB103_102.out
            have hms54_0 := NB102_101.out
            have hms54_2 := NB102_103.out
            have hs55 : w53.cell? ⟨gb102, 1, none⟩ = some (.int .i64 0) := (blk_cell BK102.out 1).trans rfl
            have hfs55 := blk_frozen BK102.out 1
            have hns55_0 := NB101_102.out
            have hns55_2 := NB103_102.out
            have hms55_0 := NB102_101.out
            have hms55_2 := NB102_103.out
            have hs56 : w53.cell? ⟨gb102, 2, none⟩ = some (.int .i64 0) := (blk_cell BK102.out 2).trans rfl
            have hfs56 := blk_frozen BK102.out 2
            have hns56_0 := NB101_102.out
            have hns56_2 := NB103_102.out
            have hms56_0 := NB102_101.out
            have hms56_2 := NB102_103.out
            have hs57 : w53.cell? ⟨gb102, 3, none⟩ = some (.string (⟨#[]⟩ : ByteArray)) := (blk_cell BK102.out 3).trans rfl
            have hfs57 := blk_frozen BK102.out 3
            have hns57_0 := NB101_102.out
            have hns57_2 := NB103_102.out
            have hms57_0 := NB102_101.out
            have hms57_2 := NB102_103.out
            refine skip_ (w1 := ?_) (by rfl) rfl ?_ ?_
            rotate_left
            · go_simp
              rfl
            refine hK.out _ _ ⟨((cell_far (p := ⟨gb102, _, none⟩) NB103_102.out _).trans (((cell_far (p := ⟨gb102, _, none⟩) NB103_102.out _).trans (((cell_far (p := ⟨gb102, _, none⟩) NB103_102.out _).trans (((cell_far (p := ⟨gb102, _, none⟩) NB103_102.out _).trans (hHeld.1)))))))), ((cell_far (p := ⟨gb102, _, none⟩) NB103_102.out _).trans (((cell_far (p := ⟨gb102, _, none⟩) NB103_102.out _).trans (((cell_far (p := ⟨gb102, _, none⟩) NB103_102.out _).trans (((cell_far (p := ⟨gb102, _, none⟩) NB103_102.out _).trans (hHeld.2.1)))))))), ((cell_far (p := ⟨gb102, _, none⟩) NB103_102.out _).trans (((cell_far (p := ⟨gb102, _, none⟩) NB103_102.out _).trans (((cell_far (p := ⟨gb102, _, none⟩) NB103_102.out _).trans (((cell_far (p := ⟨gb102, _, none⟩) NB103_102.out _).trans (hHeld.2.2.1)))))))), ((cell_far (p := ⟨gb102, _, none⟩) NB103_102.out _).trans (((cell_far (p := ⟨gb102, _, none⟩) NB103_102.out _).trans (((cell_far (p := ⟨gb102, _, none⟩) NB103_102.out _).trans (((cell_far (p := ⟨gb102, _, none⟩) NB103_102.out _).trans (hHeld.2.2.2))))))))⟩ (fun hHeld => ?_)
            clear hK K
            refine pure_ (i := 4) (N := some 3) (v := ?_) (a' := ?_) #[true, true, true, true, true] rfl rfl (by kernel_rfl) (fun _ _ _ h => h) (Or.inl ⟨by rfl, ?_⟩) ?_ ?_
            rotate_left
            · intro w'
              go_simp
              with_reducible rfl
            rotate_left
            · simp only [Act.put, List.setIfInBounds_toArray, List.set_cons_zero, List.set_cons_succ, i64_w, i32_w]
              rfl
            refine done_ (by kernel_rfl) ?_
            try go_wp2
            refine bodyPost_ret (results_ct rfl _ _ gb102 41 #[.int .i64 a0_1, .int .i64 (wrap64 (a0_2 + 1)), .int .i64 0, .string (⟨#[]⟩ : ByteArray)] (0, 0) _ rfl (by refine blk_put (cs := #[.int .i64 a0_1, .int .i64 (wrap64 (a0_2 + 1)), .int .i64 0, .string (⟨#[]⟩ : ByteArray)]) ?_ 3 _ rfl; refine blk_put (cs := #[.int .i64 a0_1, .int .i64 (wrap64 (a0_2 + 1)), .int .i64 0, .string (⟨#[]⟩ : ByteArray)]) ?_ 2 _ rfl; refine blk_put (cs := #[.int .i64 a0_1, .int .i64 0, .int .i64 0, .string (⟨#[]⟩ : ByteArray)]) ?_ 1 _ rfl; refine blk_put (cs := #[.int .i64 0, .int .i64 0, .int .i64 0, .string (⟨#[]⟩ : ByteArray)]) ?_ 0 _ rfl; (with_reducible repeat (first | refine blk_drewN ?_ _ | refine blk_drew ?_ | refine blk_alloc ?_ _)); exact BK102.out) Tryz.underlying41 rfl (by kernel_rfl)) rfl ?_
            exact ⟨by first | rfl | (simp [errW_none, errW_some] <;> rfl) | (simp [*, errW_none, errW_some] <;> rfl), zB HB⟩
        · rw [if_neg c33] at H
          have c33b0 : (a0_0 == 6) = false := beq_eq_false_iff_ne.mpr c33
          have c33b1 : (a0_0 != 6) = true := bne_iff_ne.mpr c33
          replace H := Option.bind_eq_some_iff.mp H
          obtain ⟨t107, A580, H⟩ := H
          replace H : (some (a0_1, (wrap64 (a0_2 + 1)), 0, (⟨#[]⟩ : ByteArray), t107)) = some (r1, r2, r3, r4, r5) := H
          have A58 := Aside0.mk A580
          clear A580
          simp only [Option.some.injEq, Prod.mk.injEq] at H
          obtain ⟨rfl, rfl, rfl, rfl, rfl⟩ := H
          have hnb59 := NB101_102.out
          have hnc59 := NB102_101.out
          have hnb60 := NB101_103.out
          have hnc60 := NB103_101.out
          obtain ⟨hcz61_0, hcz61_1, hcz61_2, hcz61_3, hcz61_4⟩ := zc5 BK101
          obtain ⟨hfz61_0, hfz61_1, hfz61_2, hfz61_3, hfz61_4⟩ := zf5 BK101
          try go_wp2
          have n0_ := Aside0.mk (blk_drew BK101.out)
          have n1_ := Aside0.mk (blk_drew BK102.out)
          have n2_ := Aside0.mk (blk_drew BK103.out)
          have n3_ := Aside0.mk (below_drew1 HB.out)
          clear BK101
          clear BK102
          clear BK103
          clear HB
          have BK101 := n0_
          have BK102 := n1_
          have BK103 := n2_
          have HB := n3_
          clear n0_ n1_ n2_ n3_
          refine start_ (n := 5) (S := fun w' => w'.cell? ⟨gb103, 0, none⟩ = some (.int .i64 a0_1) ∧ w'.cell? ⟨gb103, 1, none⟩ = some (.int .i64 (wrap64 (a0_2 + 1))) ∧ w'.cell? ⟨gb103, 2, none⟩ = some (.int .i64 0) ∧ w'.cell? ⟨gb103, 3, none⟩ = some (.string (⟨#[]⟩ : ByteArray))) (ds := []) #[false, false, false, false, false] (by kernel_rfl) rfl rfl ⟨(blk_cell BK103.out 0).trans rfl, (blk_cell BK103.out 1).trans rfl, (blk_cell BK103.out 2).trans rfl, (blk_cell BK103.out 3).trans rfl⟩ (fun hHeld => ?_)
          generalize wc.drew = w62 at BK101 BK102 BK103 HB hHeld ⊢
          refine take_ (i := 0) (N := some 41) (v := ?_) (a' := ?_) #[true, false, false, false, false] rfl rfl (by kernel_rfl) (fun _ _ _ h => h) (Or.inl ⟨by rfl, ?_⟩) hHeld ?_ ?_
          rotate_left
          · rintro w' ⟨s0, s1, s2, s3⟩
            go_simp
            with_reducible rfl
          rotate_left
          · simp only [Act.put, List.setIfInBounds_toArray, List.set_cons_zero, List.set_cons_succ, i64_w, i32_w]
            rfl
          refine take_ (i := 1) (N := some 42) (v := ?_) (a' := ?_) #[true, true, false, false, false] rfl rfl (by kernel_rfl) (fun _ _ _ h => h) (Or.inl ⟨by rfl, ?_⟩) hHeld ?_ ?_
          rotate_left
          · rintro w' ⟨s0, s1, s2, s3⟩
            go_simp
            with_reducible rfl
          rotate_left
          · simp only [Act.put, List.setIfInBounds_toArray, List.set_cons_zero, List.set_cons_succ, i64_w, i32_w]
            rfl
          refine one_ (i := 2) (N := some 43) #[true, true, true, false, false] rfl rfl (by kernel_rfl) (by decide) (fun K hK => ?_)
          refine goes_ Tryz.func38 (by kernel_rfl) rfl #[.agg #[.int .i64 a0_1, .int .i64 (wrap64 (a0_2 + 1)), .int .i64 0, .string (⟨#[]⟩ : ByteArray)]] (by rfl) rfl rfl (by (try simp only [List.map_toArray, List.map_cons, List.map_nil]); first | done | rfl | (simp only [List.length_drop, List.length_take]; rfl)) ?_
          with_reducible refine (slipwayref01_Version_Right.calls a0_1 (wrap64 (a0_2 + 1)) 0 (⟨#[]⟩ : ByteArray) t107 _ A58.out).mono ?_
          rintro e w63 ⟨rfl, hb⟩
          refine ⟨_, rfl, ?_⟩
          have n0_ := zb BK101 hb
          have n1_ := zb BK102 hb
          have n2_ := zb BK103 hb
          have n3_ := zs HB hb
          clear BK101
          clear BK102
          clear BK103
          clear HB
          have BK101 := n0_
          have BK102 := n1_
          have BK103 := n2_
          have HB := n3_
          clear n0_ n1_ n2_ n3_
          (try clear hb)
          (try clear hb2)
          (try clear hk)
          (try clear hi)
          refine hK.out _ _ ⟨(blk_cell BK103.out 0).trans rfl, (blk_cell BK103.out 1).trans rfl, (blk_cell BK103.out 2).trans rfl, (blk_cell BK103.out 3).trans rfl⟩ (fun hHeld => ?_)
          clear hK K
          refine norm_ (a' := ?_) ?_ ?_
          rotate_left
          · show Act.put _ (some 43) _ = _
            simp only [Act.put, List.setIfInBounds_toArray, List.set_cons_zero, List.set_cons_succ, i64_w, i32_w]
            rfl
          refine one_ (i := 3) (N := none) #[true, true, true, true, false] rfl rfl (by kernel_rfl) (by decide) (fun K hK => ?_)
          have hs64 : w63.cell? ⟨gb102, 0, none⟩ = some (.int .i64 0) := (blk_cell BK102.out 0).trans rfl
          have hfs64 := blk_frozen BK102.out 0
          have hns64_0 := NB101_102.out
          have hns64_2 := NB103_102.out
          have hms64_0 := NB102_101.out
          have hms64_2 := NB102_103.out
          have hs65 : w63.cell? ⟨gb102, 1, none⟩ = some (.int .i64 0) := (blk_cell BK102.out 1).trans rfl
          have hfs65 := blk_frozen BK102.out 1
          have hns65_0 := NB101_102.out
          have hns65_2 := NB103_102.out
          have hms65_0 := NB102_101.out
          have hms65_2 := NB102_103.out
          have hs66 : w63.cell? ⟨gb102, 2, none⟩ = some (.int .i64 0) := (blk_cell BK102.out 2).trans rfl
          have hfs66 := blk_frozen BK102.out 2
          have hns66_0 := NB101_102.out
          have hns66_2 := NB103_102.out
          have hms66_0 := NB102_101.out
          have hms66_2 := NB102_103.out
          have hs67 : w63.cell? ⟨gb102, 3, none⟩ = some (.string (⟨#[]⟩ : ByteArray)) := (blk_cell BK102.out 3).trans rfl
          have hfs67 := blk_frozen BK102.out 3
          have hns67_0 := NB101_102.out
          have hns67_2 := NB103_102.out
          have hms67_0 := NB102_101.out
          have hms67_2 := NB102_103.out
          refine skip_ (w1 := ?_) (by rfl) rfl ?_ ?_
          rotate_left
          · go_simp
            rfl
          refine hK.out _ _ ⟨((cell_far (p := ⟨gb102, _, none⟩) NB103_102.out _).trans (((cell_far (p := ⟨gb102, _, none⟩) NB103_102.out _).trans (((cell_far (p := ⟨gb102, _, none⟩) NB103_102.out _).trans (((cell_far (p := ⟨gb102, _, none⟩) NB103_102.out _).trans (hHeld.1)))))))), ((cell_far (p := ⟨gb102, _, none⟩) NB103_102.out _).trans (((cell_far (p := ⟨gb102, _, none⟩) NB103_102.out _).trans (((cell_far (p := ⟨gb102, _, none⟩) NB103_102.out _).trans (((cell_far (p := ⟨gb102, _, none⟩) NB103_102.out _).trans (hHeld.2.1)))))))), ((cell_far (p := ⟨gb102, _, none⟩) NB103_102.out _).trans (((cell_far (p := ⟨gb102, _, none⟩) NB103_102.out _).trans (((cell_far (p := ⟨gb102, _, none⟩) NB103_102.out _).trans (((cell_far (p := ⟨gb102, _, none⟩) NB103_102.out _).trans (hHeld.2.2.1)))))))), ((cell_far (p := ⟨gb102, _, none⟩) NB103_102.out _).trans (((cell_far (p := ⟨gb102, _, none⟩) NB103_102.out _).trans (((cell_far (p := ⟨gb102, _, none⟩) NB103_102.out _).trans (((cell_far (p := ⟨gb102, _, none⟩) NB103_102.out _).trans (hHeld.2.2.2))))))))⟩ (fun hHeld => ?_)
          clear hK K
          refine pure_ (i := 4) (N := some 3) (v := ?_) (a' := ?_) #[true, true, true, true, true] rfl rfl (by kernel_rfl) (fun _ _ _ h => h) (Or.inl ⟨by rfl, ?_⟩) ?_ ?_
          rotate_left
          · intro w'
            go_simp
            with_reducible rfl
          rotate_left
          · simp only [Act.put, List.setIfInBounds_toArray, List.set_cons_zero, List.set_cons_succ, i64_w, i32_w]
            rfl
          refine done_ (by kernel_rfl) ?_
          try go_wp2
          refine bodyPost_ret (results_ct rfl _ _ gb102 41 #[.int .i64 a0_1, .int .i64 (wrap64 (a0_2 + 1)), .int .i64 0, .string (⟨#[]⟩ : ByteArray)] (0, 0) _ rfl (by refine blk_put (cs := #[.int .i64 a0_1, .int .i64 (wrap64 (a0_2 + 1)), .int .i64 0, .string (⟨#[]⟩ : ByteArray)]) ?_ 3 _ rfl; refine blk_put (cs := #[.int .i64 a0_1, .int .i64 (wrap64 (a0_2 + 1)), .int .i64 0, .string (⟨#[]⟩ : ByteArray)]) ?_ 2 _ rfl; refine blk_put (cs := #[.int .i64 a0_1, .int .i64 0, .int .i64 0, .string (⟨#[]⟩ : ByteArray)]) ?_ 1 _ rfl; refine blk_put (cs := #[.int .i64 0, .int .i64 0, .int .i64 0, .string (⟨#[]⟩ : ByteArray)]) ?_ 0 _ rfl; (with_reducible repeat (first | refine blk_drewN ?_ _ | refine blk_drew ?_ | refine blk_alloc ?_ _)); exact BK102.out) Tryz.underlying41 rfl (by kernel_rfl)) rfl ?_
          exact ⟨by first | rfl | (simp [errW_none, errW_some] <;> rfl) | (simp [*, errW_none, errW_some] <;> rfl), zB HB⟩

end Go.Proofs.YtckeeefeiljamaaGreatDoor.PRu
namespace Go.Proofs.YtckeeefeiljamaaGreatDoor.PRu
open Go.RowKit Go.Proofs.YtckeeefeiljamaaGreatDoorW.PrintWords Go.Proofs.YtckeeefeiljamaaGreatDoorW.PrintLast Go.Proofs.YtckeeefeiljamaaGreatDoorW.PrintMore
attribute [local go_sem] max2_int min2_int max_two min_two max_three min_three max_four min_four   -- for this text's walks alone
set_option linter.unusedVariables false
set_option linter.unusedSimpArgs false

end Go.Proofs.YtckeeefeiljamaaGreatDoor.PRu
set_option linter.unusedSimpArgs false
set_option linter.unusedVariables false
namespace Go.Proofs.YtckeeefeiljamaaGreatDoor
open Go.RowKit Go.Lib Go.Shelf Go.Proofs.YtckeeefeiljamaaGreatDoorW.PrintWords

theorem rright_some (a b c : Int) (p : ByteArray) (h : tiny p) : slipwayref01_Version_Right.f a b c p = some (rightB a b c p) := by unfold slipwayref01_Version_Right.f; rw [if_pos h]
def upN (o a b c : Int) : Int × Int × Int := if o = 6 ∧ 0 < a then (a + 1, 0, 0) else if o = 6 ∧ b = 0 then (0, 0, c + 1) else (a, b + 1, 0)
def refUp (o a b c : Int) : Int × Int × Int × ByteArray × Bool := ((upN o a b c).1, (upN o a b c).2.1, (upN o a b c).2.2, nob, rightB (upN o a b c).1 (upN o a b c).2.1 (upN o a b c).2.2 nob)
theorem rr_nob (a b c : Int) : slipwayref01_Version_Right.f a b c (⟨#[]⟩ : ByteArray) = some (rightB a b c nob) := rright_some a b c _ (by decide)
theorem refUp_1 {o a b c : Int} (h : o = 6 ∧ 0 < a) : refUp o a b c = (a + 1, 0, 0, nob, rightB (a + 1) 0 0 nob) := by unfold refUp upN; rw [if_pos h]
theorem refUp_2 {o a b c : Int} (h : ¬ (o = 6 ∧ 0 < a)) (h2 : o = 6 ∧ b = 0) : refUp o a b c = (0, 0, c + 1, nob, rightB 0 0 (c + 1) nob) := by unfold refUp upN; rw [if_neg h, if_pos h2]
theorem refUp_3 {o a b c : Int} (h : ¬ (o = 6 ∧ 0 < a)) (h2 : ¬ (o = 6 ∧ b = 0)) : refUp o a b c = (a, b + 1, 0, nob, rightB a (b + 1) 0 nob) := by unfold refUp upN; rw [if_neg h, if_neg h2]
theorem rrE (a b c : Int) (x y z : Int) : E (fun k => (slipwayref01_Version_Right.f a b c (⟨#[]⟩ : ByteArray)).bind fun t => some (x, y, z, (⟨#[]⟩ : ByteArray), t)) (x, y, z, nob, rightB a b c nob) := E.bindc (rr_nob a b c) (E.some _)
theorem refUp_E (o a b c : Int) (p : ByteArray) (hr : rightB a b c p = true) : E (fun k => PRu.slipwayref02_Upper.f k o a b c p) (refUp o a b c) := by
  obtain ⟨ha, hb, hc, _⟩ := rightB_iff.1 hr
  rw [inN_iff] at ha hb hc
  have wa : wrap64 (a + 1) = a + 1 := wrap_id (by omega)
  have wb : wrap64 (b + 1) = b + 1 := wrap_id (by omega)
  have wc : wrap64 (c + 1) = c + 1 := wrap_id (by omega)
  have jf : ¬ (o = 6 ∧ 0 < a) → E (fun k => PRu.slipwayref02_Upper.j0 k false o a b c p a (b + 1) 0 (⟨#[]⟩ : ByteArray)) (refUp o a b c) := fun h => by
    refine E.step ?_
    simp only [PRu.slipwayref02_Upper.j0, wc]
    refine E.ite_neg (by simp) (E.ite (fun h6 => E.ite (fun h0 => ?_) (fun h0 => ?_)) (fun h6 => ?_))
    · rw [refUp_2 h ⟨h6, h0⟩]; exact rrE _ _ _ _ _ _
    · rw [refUp_3 h (fun e => h0 e.2)]; exact rrE _ _ _ _ _ _
    · rw [refUp_3 h (fun e => h6 e.1)]; exact rrE _ _ _ _ _ _
  unfold PRu.slipwayref02_Upper.f
  rw [wb]
  refine E.ite (fun h6 => ?_) (fun h6 => jf (fun e => h6 e.1))
  by_cases h0 : a > 0
  · rw [decide_eq_true h0]
    refine E.step ?_
    simp only [PRu.slipwayref02_Upper.j0, wa]
    rw [refUp_1 ⟨h6, h0⟩]
    exact E.ite_pos (by trivial) (rrE _ _ _ _ _ _)
  · rw [decide_eq_false h0]
    exact jf (fun e => h0 e.2)
theorem fin_eq (x y z : Int) : fin (x, y, z) = if rightB x y z nob = true then (x, y, z, nob, 0) else (0, 0, 0, nob, 11) := by
  rw [right_nob]; rfl
theorem upperV_eq (o a b c : Int) (p : ByteArray) (hr : rightB a b c p = true) (ho : o = 6 ∨ o = 7) :
    upperV o a b c = if (refUp o a b c).2.2.2.2 = true then refUp o a b c else (0, 0, 0, nob, false) := by
  obtain ⟨ha, hb, hc, _⟩ := rightB_iff.1 hr
  have hn : rightB a b c nob = true := by rw [right_nob, ha, hb, hc]; rfl
  rw [inN_iff] at ha hb hc
  have e : bumpV a b c nob (partV o a b c) = fin (nxt a b c nob (partV o a b c)) := by
    unfold bumpV
    rw [if_pos ⟨hn, by unfold partV; split <;> first | omega | (split <;> first | omega | (split <;> omega))⟩]
  have e2 : nxt a b c nob (partV o a b c) = upN o a b c := by
    have hne : nob.toList = [] := by decide +kernel
    rcases ho with rfl | rfl
    · by_cases h0 : 0 < a
      · have e : partV 6 a b c = 0 := by unfold partV; rw [if_neg (by omega), if_pos h0]
        rw [e]; unfold nxt upN; rw [if_pos rfl, if_pos ⟨rfl, h0⟩]
      · by_cases h1 : b = 0
        · have e : partV 6 a b c = 2 := by unfold partV; rw [if_neg (by omega), if_neg h0, if_pos h1]
          rw [e]; unfold nxt upN; rw [if_neg (by omega), if_neg (by omega), if_pos hne, if_neg (fun e => h0 e.2), if_pos ⟨rfl, h1⟩, h1, show a = 0 by omega]
        · have e : partV 6 a b c = 1 := by unfold partV; rw [if_neg (by omega), if_neg h0, if_neg h1]
          rw [e]; unfold nxt upN; rw [if_neg (by omega), if_pos rfl, if_neg (fun e => h0 e.2), if_neg (fun e => h1 e.2)]
    · have e : partV 7 a b c = 1 := by unfold partV; rw [if_pos rfl]
      rw [e]; unfold nxt upN; rw [if_neg (by omega), if_pos rfl, if_neg (by omega), if_neg (by omega)]
  unfold upperV
  rw [e, e2, fin_eq]
  unfold refUp
  cases rightB (upN o a b c).1 (upN o a b c).2.1 (upN o a b c).2.2 nob <;> rfl
theorem belowU_eq (o a b c : Int) (p : ByteArray) (hr : rightB a b c p = true) (ho : o = 6 ∨ o = 7) (x y z : Int) (q : ByteArray) :
    belowU o a b c x y z q = (!(refUp o a b c).2.2.2.2 || decide (cmpV x y z q (refUp o a b c).1 (refUp o a b c).2.1 (refUp o a b c).2.2.1 (refUp o a b c).2.2.2.1 < 0)) := by
  unfold belowU
  rw [upperV_eq o a b c p hr ho]
  cases h : (refUp o a b c).2.2.2.2 with
  | true => simp [h]
  | false => simp
theorem rcmp_some (a b c : Int) (p : ByteArray) (x y z : Int) (q : ByteArray) (h : tiny p) (h' : tiny q) : slipwayref01_Compare.f a b c p x y z q = some (cmpV a b c p x y z q) := by
  unfold slipwayref01_Compare.f; rw [if_pos ⟨h, h'⟩]; rfl
theorem rUpper_walk (o a b c : Int) (p : ByteArray) (hr : rightB a b c p = true) (w : World) : Calls Tryz.prog 23 #[.agg (cC o a b c p)] w fun e w' =>
    e = .returned (.tuple #[.agg (vC (refUp o a b c).1 (refUp o a b c).2.1 (refUp o a b c).2.2.1 (refUp o a b c).2.2.2.1), .bool (refUp o a b c).2.2.2.2]) ∧ Below w.heap.size w w' := by
  obtain ⟨k, hk⟩ := (refUp_E o a b c p hr).ex
  exact PRu.slipwayref02_Upper.calls k o a b c p _ _ _ _ _ w hk
set_option maxHeartbeats 4000000 in
theorem one_walk (o a b c : Int) (p : ByteArray) (x y z : Int) (q : ByteArray) (w : World) (hr : compR o a b c p = true) (hp : tiny p) (hq : tiny q) : Calls Tryz.prog 39 #[.agg (cC o a b c p), .agg (vC x y z q)] w fun e w' => e = .returned (.bool (hasV o a b c p x y z q)) ∧ Below w.heap.size w w' := by
  have hrb : o ≠ 0 → rightB a b c p = true := fun h => by
    unfold compR at hr
    rw [if_neg h] at hr
    simp only [Bool.and_eq_true] at hr
    exact hr.2.2
  have HC := Lib.hid (fun W => slipwayref01_Compare.calls x y z q a b c p (cmpV x y z q a b c p) W (rcmp_some _ _ _ _ _ _ _ _ hq hp))
  have HD := Lib.hid (fun W => slipwayref01_Compare.calls x y z q (refUp o a b c).1 (refUp o a b c).2.1 (refUp o a b c).2.2.1 (refUp o a b c).2.2.2.1 (cmpV x y z q (refUp o a b c).1 (refUp o a b c).2.1 (refUp o a b c).2.2.1 (refUp o a b c).2.2.2.1) W (rcmp_some _ _ _ _ _ _ _ _ hq (show nob.size ≤ 1000 by decide)))
  have h0 : Below w.heap.size w ((w.alloc (.cells (cC o a b c p) 53)).alloc (.cells (vC x y z q) 41)) := ((Below.refl _ w).alloc (Nat.le_refl _) _).alloc (by simp) _
  have g0 : ((w.alloc (.cells (cC o a b c p) 53)).alloc (.cells (vC x y z q) 41)).heap[w.heap.size]? = some (.cells (cC o a b c p) 53 (0, 0)) := (Below.heap_alloc _ _ _ (by simp)).trans (World.alloc_heap_new _ _)
  have g1 : ((w.alloc (.cells (cC o a b c p) 53)).alloc (.cells (vC x y z q) 41)).heap[w.heap.size + 1]? = some (.cells (vC x y z q) 41 (0, 0)) := by
    have := World.alloc_heap_new (w.alloc (.cells (cC o a b c p) 53)) (.cells (vC x y z q) 41); rwa [World.size_alloc] at this
  have MK := Lib.hid (fun w1 (h : Below ((w.alloc (.cells (cC o a b c p) 53)).alloc (.cells (vC x y z q) 41)).heap.size ((w.alloc (.cells (cC o a b c p) 53)).alloc (.cells (vC x y z q) 41)) w1) =>
    (⟨h0.trans (h.mono h0.size), (h.block _ (by simp; omega)).trans g0, (h.block _ (by simp)).trans g1⟩ : Below w.heap.size w w1 ∧ w1.heap[w.heap.size]? = some (.cells (cC o a b c p) 53 (0, 0)) ∧ w1.heap[w.heap.size + 1]? = some (.cells (vC x y z q) 41 (0, 0))))
  have HW := Lib.hid (HC.out ((w.alloc (.cells (cC o a b c p) 53)).alloc (.cells (vC x y z q) 41)))
  have HU := Lib.hid (fun (h : o ≠ 0) W => rUpper_walk o a b c p (hrb h) W)
  have HBU := Lib.hid (fun (h : o ≠ 0) (h2 : o = 6 ∨ o = 7) => belowU_eq o a b c p (hrb h) h2 x y z q)
  clear h0 g0 g1 HC hrb hr
  unfold hasV
  generalize cmpV x y z q a b c p = n at HW ⊢
  generalize belowU o a b c x y z q = bu at HBU ⊢
  generalize cmpV x y z q (refUp o a b c).1 (refUp o a b c).2.1 (refUp o a b c).2.2.1 (refUp o a b c).2.2.2.1 = n2 at HD HBU
  generalize (refUp o a b c).1 = r1 at *
  generalize (refUp o a b c).2.1 = r2 at *
  generalize (refUp o a b c).2.2.1 = r3 at *
  generalize (refUp o a b c).2.2.2.1 = r4 at *
  generalize (refUp o a b c).2.2.2.2 = r5 at *
  by_cases e1 : o = 1
  · rw [if_pos e1]
    clear HBU HU
    subst e1
    go_enter Tryz.func39, Tryz.ntmps39
    go_wp2_with fail
    refine HW.out.mono ?_
    rintro e w1 ⟨rfl, hb1⟩
    obtain ⟨h1, h2, h3⟩ := MK.out w1 hb1
    have c1 := cell_of_five h2
    have c2 := cell_of_row h3
    have H1 := Lib.hid h1
    have H2 := Lib.hid h2
    have H3 := Lib.hid h3
    clear hb1 h1 h2 h3
    go_wp2_with fail
    go_ret
    exact ⟨rfl, H1.out⟩
  rw [if_neg e1]
  have e1b : (o == 1) = false := beq_eq_false_iff_ne.2 e1
  by_cases e2 : o = 2
  · rw [if_pos e2]
    clear HBU HU
    subst e2
    go_enter Tryz.func39, Tryz.ntmps39
    go_wp2_with fail
    refine HW.out.mono ?_
    rintro e w1 ⟨rfl, hb1⟩
    obtain ⟨h1, h2, h3⟩ := MK.out w1 hb1
    have c1 := cell_of_five h2
    have c2 := cell_of_row h3
    have H1 := Lib.hid h1
    have H2 := Lib.hid h2
    have H3 := Lib.hid h3
    clear hb1 h1 h2 h3
    go_wp2_with fail
    go_ret
    exact ⟨rfl, H1.out⟩
  rw [if_neg e2]
  have e2b : (o == 2) = false := beq_eq_false_iff_ne.2 e2
  by_cases e3 : o = 3
  · rw [if_pos e3]
    rw [show decide (n ≤ 0) = decide (n < 1) from decide_eq_decide.2 (by omega)]
    clear HBU HU
    subst e3
    go_enter Tryz.func39, Tryz.ntmps39
    go_wp2_with fail
    refine HW.out.mono ?_
    rintro e w1 ⟨rfl, hb1⟩
    obtain ⟨h1, h2, h3⟩ := MK.out w1 hb1
    have c1 := cell_of_five h2
    have c2 := cell_of_row h3
    have H1 := Lib.hid h1
    have H2 := Lib.hid h2
    have H3 := Lib.hid h3
    clear hb1 h1 h2 h3
    go_wp2_with fail
    go_ret
    exact ⟨rfl, H1.out⟩
  rw [if_neg e3]
  have e3b : (o == 3) = false := beq_eq_false_iff_ne.2 e3
  by_cases e4 : o = 4
  · rw [if_pos e4]
    clear HBU HU
    subst e4
    go_enter Tryz.func39, Tryz.ntmps39
    go_wp2_with fail
    refine HW.out.mono ?_
    rintro e w1 ⟨rfl, hb1⟩
    obtain ⟨h1, h2, h3⟩ := MK.out w1 hb1
    have c1 := cell_of_five h2
    have c2 := cell_of_row h3
    have H1 := Lib.hid h1
    have H2 := Lib.hid h2
    have H3 := Lib.hid h3
    clear hb1 h1 h2 h3
    go_wp2_with fail
    go_ret
    exact ⟨rfl, H1.out⟩
  rw [if_neg e4]
  have e4b : (o == 4) = false := beq_eq_false_iff_ne.2 e4
  by_cases e5 : o = 5
  · rw [if_pos e5]
    rw [show decide (n ≥ 0) = decide (n > -1) from decide_eq_decide.2 (by omega)]
    clear HBU HU
    subst e5
    go_enter Tryz.func39, Tryz.ntmps39
    go_wp2_with fail
    refine HW.out.mono ?_
    rintro e w1 ⟨rfl, hb1⟩
    obtain ⟨h1, h2, h3⟩ := MK.out w1 hb1
    have c1 := cell_of_five h2
    have c2 := cell_of_row h3
    have H1 := Lib.hid h1
    have H2 := Lib.hid h2
    have H3 := Lib.hid h3
    clear hb1 h1 h2 h3
    go_wp2_with fail
    go_ret
    exact ⟨rfl, H1.out⟩
  rw [if_neg e5]
  have e5b : (o == 5) = false := beq_eq_false_iff_ne.2 e5
  by_cases e6 : o = 6
  · rw [if_pos (.inl e6), HBU.out (by omega) (.inl e6)]
    have HV := Lib.hid (fun W => HU.out (by omega) W)
    clear HBU HU
    subst e6
    rw [show decide (n ≥ 0) = decide (n > -1) from decide_eq_decide.2 (by omega)]
    by_cases hn : n > -1
    · have hn1 : decide (n > -1) = true := decide_eq_true hn
      have hn2 : decide ((-1 : Int) < n) = true := decide_eq_true hn
      rw [hn1, Bool.true_and]
      clear hn
      cases r5 with
      | false =>
        go_enter Tryz.func39, Tryz.ntmps39
        go_wp2_with fail
        refine HW.out.mono ?_
        rintro e w1 ⟨rfl, hb1⟩
        obtain ⟨h1, h2, h3⟩ := MK.out w1 hb1
        have c1 := cell_of_five h2
        have c2 := cell_of_row h3
        have H1 := Lib.hid h1
        have H2 := Lib.hid h2
        have H3 := Lib.hid h3
        clear hb1 h1 h2 h3
        go_wp2_with fail
        refine (HV.out w1).mono ?_
        rintro e w2 ⟨rfl, hb2⟩
        have H4 := Lib.hid (H1.out.trans (hb2.mono H1.out.size))
        have c5 := cell_of_row ((hb2.block _ (Array.getElem?_eq_some_iff.1 H3.out).1).trans H3.out)
        have c6 := cell_of_row ((below_alloc (Below.refl _ w2) (.cells (vC r1 r2 r3 r4) 41)).block _ (Nat.lt_of_lt_of_le (Array.getElem?_eq_some_iff.1 H3.out).1 hb2.size) |>.trans ((hb2.block _ (Array.getElem?_eq_some_iff.1 H3.out).1).trans H3.out))
        have H5 : Hid (Below w.heap.size w (w2.alloc (.cells (vC r1 r2 r3 r4) 41))) := Lib.hid (H4.out.alloc H4.out.size _)
        clear hb2 c1 c2
        go_wp2_with fail
        go_ret
        exact ⟨rfl, H5.out⟩
      | true =>
        go_enter Tryz.func39, Tryz.ntmps39
        go_wp2_with fail
        refine HW.out.mono ?_
        rintro e w1 ⟨rfl, hb1⟩
        obtain ⟨h1, h2, h3⟩ := MK.out w1 hb1
        have c1 := cell_of_five h2
        have c2 := cell_of_row h3
        have H1 := Lib.hid h1
        have H2 := Lib.hid h2
        have H3 := Lib.hid h3
        clear hb1 h1 h2 h3
        go_wp2_with fail
        refine (HV.out w1).mono ?_
        rintro e w2 ⟨rfl, hb2⟩
        have H4 := Lib.hid (H1.out.trans (hb2.mono H1.out.size))
        have c5 := cell_of_row ((hb2.block _ (Array.getElem?_eq_some_iff.1 H3.out).1).trans H3.out)
        have c6 := cell_of_row ((below_alloc (Below.refl _ w2) (.cells (vC r1 r2 r3 r4) 41)).block _ (Nat.lt_of_lt_of_le (Array.getElem?_eq_some_iff.1 H3.out).1 hb2.size) |>.trans ((hb2.block _ (Array.getElem?_eq_some_iff.1 H3.out).1).trans H3.out))
        have H5 : Hid (Below w.heap.size w (w2.alloc (.cells (vC r1 r2 r3 r4) 41))) := Lib.hid (H4.out.alloc H4.out.size _)
        clear hb2 c1 c2
        go_wp2_with fail
        refine (HD.out _).mono ?_
        rintro e w3 ⟨rfl, hb3⟩
        have H6 := Lib.hid (H5.out.trans (hb3.mono H5.out.size))
        clear hb3
        go_wp2_with fail
        go_ret
        exact ⟨rfl, H6.out⟩
    · have hn1 : decide (n > -1) = false := decide_eq_false hn
      have hn2 : decide ((-1 : Int) < n) = false := decide_eq_false hn
      rw [hn1, Bool.false_and]
      clear hn
      go_enter Tryz.func39, Tryz.ntmps39
      go_wp2_with fail
      refine HW.out.mono ?_
      rintro e w1 ⟨rfl, hb1⟩
      obtain ⟨h1, h2, h3⟩ := MK.out w1 hb1
      have c1 := cell_of_five h2
      have c2 := cell_of_row h3
      have H1 := Lib.hid h1
      have H2 := Lib.hid h2
      have H3 := Lib.hid h3
      clear hb1 h1 h2 h3
      go_wp2_with fail
      refine (HV.out w1).mono ?_
      rintro e w2 ⟨rfl, hb2⟩
      have H4 := Lib.hid (H1.out.trans (hb2.mono H1.out.size))
      have H5 : Hid (Below w.heap.size w (w2.alloc (.cells (vC r1 r2 r3 r4) 41))) := Lib.hid (H4.out.alloc H4.out.size _)
      clear hb2 c1 c2
      go_wp2_with fail
      go_ret
      exact ⟨rfl, H5.out⟩
  by_cases e7 : o = 7
  · rw [if_pos (.inr e7), HBU.out (by omega) (.inr e7)]
    have HV := Lib.hid (fun W => HU.out (by omega) W)
    clear HBU HU
    subst e7
    rw [show decide (n ≥ 0) = decide (n > -1) from decide_eq_decide.2 (by omega)]
    by_cases hn : n > -1
    · have hn1 : decide (n > -1) = true := decide_eq_true hn
      have hn2 : decide ((-1 : Int) < n) = true := decide_eq_true hn
      rw [hn1, Bool.true_and]
      clear hn
      cases r5 with
      | false =>
        go_enter Tryz.func39, Tryz.ntmps39
        go_wp2_with fail
        refine HW.out.mono ?_
        rintro e w1 ⟨rfl, hb1⟩
        obtain ⟨h1, h2, h3⟩ := MK.out w1 hb1
        have c1 := cell_of_five h2
        have c2 := cell_of_row h3
        have H1 := Lib.hid h1
        have H2 := Lib.hid h2
        have H3 := Lib.hid h3
        clear hb1 h1 h2 h3
        go_wp2_with fail
        refine (HV.out w1).mono ?_
        rintro e w2 ⟨rfl, hb2⟩
        have H4 := Lib.hid (H1.out.trans (hb2.mono H1.out.size))
        have c5 := cell_of_row ((hb2.block _ (Array.getElem?_eq_some_iff.1 H3.out).1).trans H3.out)
        have c6 := cell_of_row ((below_alloc (Below.refl _ w2) (.cells (vC r1 r2 r3 r4) 41)).block _ (Nat.lt_of_lt_of_le (Array.getElem?_eq_some_iff.1 H3.out).1 hb2.size) |>.trans ((hb2.block _ (Array.getElem?_eq_some_iff.1 H3.out).1).trans H3.out))
        have H5 : Hid (Below w.heap.size w (w2.alloc (.cells (vC r1 r2 r3 r4) 41))) := Lib.hid (H4.out.alloc H4.out.size _)
        clear hb2 c1 c2
        go_wp2_with fail
        go_ret
        exact ⟨rfl, H5.out⟩
      | true =>
        go_enter Tryz.func39, Tryz.ntmps39
        go_wp2_with fail
        refine HW.out.mono ?_
        rintro e w1 ⟨rfl, hb1⟩
        obtain ⟨h1, h2, h3⟩ := MK.out w1 hb1
        have c1 := cell_of_five h2
        have c2 := cell_of_row h3
        have H1 := Lib.hid h1
        have H2 := Lib.hid h2
        have H3 := Lib.hid h3
        clear hb1 h1 h2 h3
        go_wp2_with fail
        refine (HV.out w1).mono ?_
        rintro e w2 ⟨rfl, hb2⟩
        have H4 := Lib.hid (H1.out.trans (hb2.mono H1.out.size))
        have c5 := cell_of_row ((hb2.block _ (Array.getElem?_eq_some_iff.1 H3.out).1).trans H3.out)
        have c6 := cell_of_row ((below_alloc (Below.refl _ w2) (.cells (vC r1 r2 r3 r4) 41)).block _ (Nat.lt_of_lt_of_le (Array.getElem?_eq_some_iff.1 H3.out).1 hb2.size) |>.trans ((hb2.block _ (Array.getElem?_eq_some_iff.1 H3.out).1).trans H3.out))
        have H5 : Hid (Below w.heap.size w (w2.alloc (.cells (vC r1 r2 r3 r4) 41))) := Lib.hid (H4.out.alloc H4.out.size _)
        clear hb2 c1 c2
        go_wp2_with fail
        refine (HD.out _).mono ?_
        rintro e w3 ⟨rfl, hb3⟩
        have H6 := Lib.hid (H5.out.trans (hb3.mono H5.out.size))
        clear hb3
        go_wp2_with fail
        go_ret
        exact ⟨rfl, H6.out⟩
    · have hn1 : decide (n > -1) = false := decide_eq_false hn
      have hn2 : decide ((-1 : Int) < n) = false := decide_eq_false hn
      rw [hn1, Bool.false_and]
      clear hn
      go_enter Tryz.func39, Tryz.ntmps39
      go_wp2_with fail
      refine HW.out.mono ?_
      rintro e w1 ⟨rfl, hb1⟩
      obtain ⟨h1, h2, h3⟩ := MK.out w1 hb1
      have c1 := cell_of_five h2
      have c2 := cell_of_row h3
      have H1 := Lib.hid h1
      have H2 := Lib.hid h2
      have H3 := Lib.hid h3
      clear hb1 h1 h2 h3
      go_wp2_with fail
      refine (HV.out w1).mono ?_
      rintro e w2 ⟨rfl, hb2⟩
      have H4 := Lib.hid (H1.out.trans (hb2.mono H1.out.size))
      have H5 : Hid (Below w.heap.size w (w2.alloc (.cells (vC r1 r2 r3 r4) 41))) := Lib.hid (H4.out.alloc H4.out.size _)
      clear hb2 c1 c2
      go_wp2_with fail
      go_ret
      exact ⟨rfl, H5.out⟩
  rw [if_neg (by omega)]
  have e6b : (o == 6) = false := beq_eq_false_iff_ne.2 e6
  have e7b : (o == 7) = false := beq_eq_false_iff_ne.2 e7
  clear HBU HU
  go_enter Tryz.func39, Tryz.ntmps39
  go_wp2_with fail
  refine HW.out.mono ?_
  rintro e w1 ⟨rfl, hb1⟩
  obtain ⟨h1, h2, h3⟩ := MK.out w1 hb1
  have c1 := cell_of_five h2
  have c2 := cell_of_row h3
  have H1 := Lib.hid h1
  have H2 := Lib.hid h2
  have H3 := Lib.hid h3
  clear hb1 h1 h2 h3
  go_wp2_with fail
  go_ret
  exact ⟨rfl, H1.out⟩
def slipwayref02_Upper.f (o a b c : Int) (p : ByteArray) : Option (Int × Int × Int × ByteArray × Bool) := if rightB a b c p = true then some (refUp o a b c) else none
theorem slipwayref02_Upper.calls (a0_0 a0_1 a0_2 a0_3 : Int) (a0_4 : ByteArray) (r1 r2 r3 : Int) (r4 : ByteArray) (r5 : Bool) (w : World) (h : slipwayref02_Upper.f a0_0 a0_1 a0_2 a0_3 a0_4 = some (r1, r2, r3, r4, r5)) :
    Calls Tryz.prog 23 #[.agg #[.int .i64 a0_0, .int .i64 a0_1, .int .i64 a0_2, .int .i64 a0_3, .string a0_4]] w fun e w' => e = .returned (.tuple #[.agg #[.int .i64 r1, .int .i64 r2, .int .i64 r3, .string r4], .bool r5]) ∧ Below w.heap.size w w' := by
  unfold slipwayref02_Upper.f at h
  split at h
  · rename_i hs
    have h := Option.some.inj h
    have := rUpper_walk a0_0 a0_1 a0_2 a0_3 a0_4 hs w
    rw [h] at this
    exact this
  · cases h
def slipwayref02_one.f (o a b c : Int) (p : ByteArray) (x y z : Int) (q : ByteArray) : Option Bool := if compR o a b c p = true ∧ tiny p ∧ tiny q then some (hasV o a b c p x y z q) else none
theorem slipwayref02_one.calls (a0_0 a0_1 a0_2 a0_3 : Int) (a0_4 : ByteArray) (a1_0 a1_1 a1_2 : Int) (a1_3 : ByteArray) (r : Bool) (w : World) (h : slipwayref02_one.f a0_0 a0_1 a0_2 a0_3 a0_4 a1_0 a1_1 a1_2 a1_3 = some r) :
    Calls Tryz.prog 39 #[.agg #[.int .i64 a0_0, .int .i64 a0_1, .int .i64 a0_2, .int .i64 a0_3, .string a0_4], .agg #[.int .i64 a1_0, .int .i64 a1_1, .int .i64 a1_2, .string a1_3]] w fun e w' => e = .returned (.bool r) ∧ Below w.heap.size w w' := by
  unfold slipwayref02_one.f at h
  split at h
  · rename_i hs
    obtain rfl := Option.some.inj h
    exact one_walk _ _ _ _ _ _ _ _ _ w hs.1 hs.2.1 hs.2.2
  · cases h
end Go.Proofs.YtckeeefeiljamaaGreatDoor
