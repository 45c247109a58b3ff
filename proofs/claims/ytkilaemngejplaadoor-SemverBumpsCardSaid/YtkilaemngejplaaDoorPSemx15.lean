-- Written by a program of this session (wip/pgiven.py) out of the translation: functions as the program has them, with their proofs.
import Derived.Test.YtkilaemngejplaaDoorPSemx0
import Derived.Test.YtkilaemngejplaaDoorPSemx1
import Derived.Test.YtkilaemngejplaaDoorPSemx2
import Derived.Test.YtkilaemngejplaaDoorPSemx3
import Derived.Test.YtkilaemngejplaaDoorPSemx4
import Derived.Test.YtkilaemngejplaaDoorPSemx8
import Derived.Test.YtkilaemngejplaaDoorPSemx14
import Derived.Test.YtkilaemngejplaaDoorGh
namespace Go.Proofs.YtkilaemngejplaaDoor.PSem
open Go.RowKit Go.Proofs.YtkilaemngejplaaDoorW.PrintWords Go.Proofs.YtkilaemngejplaaDoorW.PrintLast Go.Proofs.YtkilaemngejplaaDoorW.PrintMore
attribute [local go_sem] max2_int min2_int max_two min_two max_three min_three max_four min_four   -- for this text's walks alone
set_option linter.unusedVariables false
set_option linter.unusedSimpArgs false

attribute [local go_sem high] eqA25
/-! ### slipwaylaw01_SemverBumps: function 10 -/
def slipwaylaw01_SemverBumps.j0 : Nat → Int → Int → Bool → Int → Int → Int → ByteArray → Int → Int → Int → ByteArray → Option (Bool)
  | 0, _, _, _, _, _, _, _, _, _, _, _ => none
  | k + 1, x1, x6, x30, x167000, x167001, x167002, x167003, x175000, x175001, x175002, x175003 => if x30 = true then (if x6 = 12 then (some (x175000 == 0 && (x175001 == 0 && (x175002 == 0 && (x175003.toList == ([] : List UInt8)))))) else (some false)) else (if x1 = 0 then (if (wrap64 (x167000 + 1)) > 999999 then (if x6 = 11 then (some (x175000 == 0 && (x175001 == 0 && (x175002 == 0 && (x175003.toList == ([] : List UInt8)))))) else (some false)) else (if 0 > 999999 then (if x6 = 11 then (some (x175000 == 0 && (x175001 == 0 && (x175002 == 0 && (x175003.toList == ([] : List UInt8)))))) else (some false)) else (if x6 = 0 then (if (x175000 == (wrap64 (x167000 + 1)) && (x175001 == 0 && (x175002 == 0 && (x175003.toList == ([] : List UInt8))))) = true then ((semver_Compare.f k x167000 x167001 x167002 x167003 x175000 x175001 x175002 x175003).bind fun t177 => (some (t177 == (-1)))) else (some false)) else (some false)))) else (if x1 = 1 then (if x167000 > 999999 then (if x6 = 11 then (some (x175000 == 0 && (x175001 == 0 && (x175002 == 0 && (x175003.toList == ([] : List UInt8)))))) else (some false)) else (if (wrap64 (x167001 + 1)) > 999999 then (if x6 = 11 then (some (x175000 == 0 && (x175001 == 0 && (x175002 == 0 && (x175003.toList == ([] : List UInt8)))))) else (some false)) else (if 0 > 999999 then (if x6 = 11 then (some (x175000 == 0 && (x175001 == 0 && (x175002 == 0 && (x175003.toList == ([] : List UInt8)))))) else (some false)) else (if x6 = 0 then (if (x175000 == x167000 && (x175001 == (wrap64 (x167001 + 1)) && (x175002 == 0 && (x175003.toList == ([] : List UInt8))))) = true then ((semver_Compare.f k x167000 x167001 x167002 x167003 x175000 x175001 x175002 x175003).bind fun t178 => (some (t178 == (-1)))) else (some false)) else (some false))))) else (if x167003.toList = ([] : List UInt8) then (if x167000 > 999999 then (if x6 = 11 then (some (x175000 == 0 && (x175001 == 0 && (x175002 == 0 && (x175003.toList == ([] : List UInt8)))))) else (some false)) else (if x167001 > 999999 then (if x6 = 11 then (some (x175000 == 0 && (x175001 == 0 && (x175002 == 0 && (x175003.toList == ([] : List UInt8)))))) else (some false)) else (if (wrap64 (x167002 + 1)) > 999999 then (if x6 = 11 then (some (x175000 == 0 && (x175001 == 0 && (x175002 == 0 && (x175003.toList == ([] : List UInt8)))))) else (some false)) else (if x6 = 0 then (if (x175000 == x167000 && (x175001 == x167001 && (x175002 == (wrap64 (x167002 + 1)) && (x175003.toList == ([] : List UInt8))))) = true then ((semver_Compare.f k x167000 x167001 x167002 x167003 x175000 x175001 x175002 x175003).bind fun t179 => (some (t179 == (-1)))) else (some false)) else (some false))))) else (if x167000 > 999999 then (if x6 = 11 then (some (x175000 == 0 && (x175001 == 0 && (x175002 == 0 && (x175003.toList == ([] : List UInt8)))))) else (some false)) else (if x167001 > 999999 then (if x6 = 11 then (some (x175000 == 0 && (x175001 == 0 && (x175002 == 0 && (x175003.toList == ([] : List UInt8)))))) else (some false)) else (if x167002 > 999999 then (if x6 = 11 then (some (x175000 == 0 && (x175001 == 0 && (x175002 == 0 && (x175003.toList == ([] : List UInt8)))))) else (some false)) else (if x6 = 0 then (if (x175000 == x167000 && (x175001 == x167001 && (x175002 == x167002 && (x175003.toList == ([] : List UInt8))))) = true then ((semver_Compare.f k x167000 x167001 x167002 x167003 x175000 x175001 x175002 x175003).bind fun t180 => (some (t180 == (-1)))) else (some false)) else (some false))))))))
def slipwaylaw01_SemverBumps.f (k : Nat) (a0_0 : Int) (a0_1 : Int) (a0_2 : Int) (a0_3 : ByteArray) (a1 : Int) : Option (Bool) := (slipwaylaw01_anchor.f k).bind fun t167 => (if t167 = true then ((slipwaylaw01_short.f a0_3).bind fun t168 => (if t168 = true then ((semver_Version_Bump.f k a0_0 a0_1 a0_2 a0_3 a1).bind fun bt169 => ((slipwayref01_Version_Right.f k a0_0 a0_1 a0_2 a0_3).bind fun t175 => (if t175 = true then (if a1 < 0 then (slipwaylaw01_SemverBumps.j0 k a1 bt169.2.2.2.2 true a0_0 a0_1 a0_2 a0_3 bt169.1 bt169.2.1 bt169.2.2.1 bt169.2.2.2.1) else (slipwaylaw01_SemverBumps.j0 k a1 bt169.2.2.2.2 (decide (a1 > 2)) a0_0 a0_1 a0_2 a0_3 bt169.1 bt169.2.1 bt169.2.2.1 bt169.2.2.2.1)) else (slipwaylaw01_SemverBumps.j0 k a1 bt169.2.2.2.2 true a0_0 a0_1 a0_2 a0_3 bt169.1 bt169.2.1 bt169.2.2.1 bt169.2.2.2.1)))) else (some true))) else (some false))
theorem slipwaylaw01_SemverBumps.mono_l : ∀ k, (∀ y0 y1 y2 y3 y4 y5 y6 y7 y8 y9 y10, LeO (slipwaylaw01_SemverBumps.j0 k y0 y1 y2 y3 y4 y5 y6 y7 y8 y9 y10) (slipwaylaw01_SemverBumps.j0 (k + 1) y0 y1 y2 y3 y4 y5 y6 y7 y8 y9 y10))
  | 0 => fun _ _ _ _ _ _ _ _ _ _ _ r h => by simp [slipwaylaw01_SemverBumps.j0] at h
  | k + 1 => by
    have ih0 := slipwaylaw01_SemverBumps.mono_l k
    · intro y0 y1 y2 y3 y4 y5 y6 y7 y8 y9 y10
      unfold slipwaylaw01_SemverBumps.j0
      repeat' first
      | (with_reducible exact ih0 _ _ _ _ _ _ _ _ _ _ _)
      | (with_reducible exact semver_Compare.mono _ _ _ _ _ _ _ _ _)
      | (with_reducible exact semver_Version_Bump.mono _ _ _ _ _ _)
      | (with_reducible exact slipwaylaw01_anchor.mono _)
      | (with_reducible exact slipwayref01_Version_Right.mono _ _ _ _ _)
      | (with_reducible exact LeO.refl _)
      | (with_reducible exact LeO.none _)
      | (with_reducible refine LeO.ite ?_ ?_)
      | (with_reducible refine LeO.bind ?_ (fun _ => ?_))
      | exact ih0 _ _ _ _ _ _ _ _ _ _ _
      | exact semver_Compare.mono _ _ _ _ _ _ _ _ _
      | exact semver_Version_Bump.mono _ _ _ _ _ _
      | exact slipwaylaw01_anchor.mono _
      | exact slipwayref01_Version_Right.mono _ _ _ _ _
      | exact LeO.none _
      | refine LeO.ite ?_ ?_
      | refine LeO.bind ?_ (fun _ => ?_)
theorem slipwaylaw01_SemverBumps.mono : ∀ a0 a1 a2 a3 a4 k, LeO (slipwaylaw01_SemverBumps.f k a0 a1 a2 a3 a4) (slipwaylaw01_SemverBumps.f (k + 1) a0 a1 a2 a3 a4) := by
  intro a0 a1 a2 a3 a4 k
  have ih0 := slipwaylaw01_SemverBumps.mono_l k
  unfold slipwaylaw01_SemverBumps.f
  repeat' first
      | (with_reducible exact ih0 _ _ _ _ _ _ _ _ _ _ _)
      | (with_reducible exact semver_Compare.mono _ _ _ _ _ _ _ _ _)
      | (with_reducible exact semver_Version_Bump.mono _ _ _ _ _ _)
      | (with_reducible exact slipwaylaw01_anchor.mono _)
      | (with_reducible exact slipwayref01_Version_Right.mono _ _ _ _ _)
      | (with_reducible exact LeO.refl _)
      | (with_reducible exact LeO.none _)
      | (with_reducible refine LeO.ite ?_ ?_)
      | (with_reducible refine LeO.bind ?_ (fun _ => ?_))
      | exact ih0 _ _ _ _ _ _ _ _ _ _ _
      | exact semver_Compare.mono _ _ _ _ _ _ _ _ _
      | exact semver_Version_Bump.mono _ _ _ _ _ _
      | exact slipwaylaw01_anchor.mono _
      | exact slipwayref01_Version_Right.mono _ _ _ _ _
      | exact LeO.none _
      | refine LeO.ite ?_ ?_
      | refine LeO.bind ?_ (fun _ => ?_)
/-- What follows the switch: the numbers of the wanted version are x, y, z. -/
def bumpTail (k : Nat) (t173 a0_0 a0_1 a0_2 : Int) (a0_3 : ByteArray) (t169 t170 t171 : Int) (t172 : ByteArray) (x y z : Int) : Option Bool :=
  if x > 999999 then (if t173 = 11 then (some (t169 == 0 && (t170 == 0 && (t171 == 0 && (t172.toList == ([] : List UInt8)))))) else (some false)) else (if y > 999999 then (if t173 = 11 then (some (t169 == 0 && (t170 == 0 && (t171 == 0 && (t172.toList == ([] : List UInt8)))))) else (some false)) else (if z > 999999 then (if t173 = 11 then (some (t169 == 0 && (t170 == 0 && (t171 == 0 && (t172.toList == ([] : List UInt8)))))) else (some false)) else (if t173 = 0 then (if (t169 == x && (t170 == y && (t171 == z && (t172.toList == ([] : List UInt8))))) = true then ((semver_Compare.f k a0_0 a0_1 a0_2 a0_3 t169 t170 t171 t172).bind fun t177 => (some (t177 == (-1)))) else (some false)) else (some false))))
set_option maxHeartbeats 8000000 in
set_option maxRecDepth 100000 in
theorem slipwaylaw01_SemverBumps.calls (k : Nat) (a0_0 : Int) (a0_1 : Int) (a0_2 : Int) (a0_3 : ByteArray) (a1 : Int) (r : Bool) (w : World) (hG : Gw w) (h : slipwaylaw01_SemverBumps.f k a0_0 a0_1 a0_2 a0_3 a1 = some r) :
    Calls Tryd.prog 10 #[.agg #[.int .i64 a0_0, .int .i64 a0_1, .int .i64 a0_2, .string a0_3], .int .i64 a1] w fun e w' => e = .returned (.bool r) ∧ Below w.heap.size w w' := by
  have HG := Aside0.mk hG
  clear hG
  have hu25 := Tryd.underlying25
  have HB := Aside0.mk (Below.refl w.heap.size w)
  have H : ((slipwaylaw01_anchor.f k).bind fun t167 => (if t167 = true then ((slipwaylaw01_short.f a0_3).bind fun t168 => (if t168 = true then ((semver_Version_Bump.f k a0_0 a0_1 a0_2 a0_3 a1).bind fun bt169 => ((slipwayref01_Version_Right.f k a0_0 a0_1 a0_2 a0_3).bind fun t175 => (if t175 = true then (if a1 < 0 then (slipwaylaw01_SemverBumps.j0 k a1 bt169.2.2.2.2 true a0_0 a0_1 a0_2 a0_3 bt169.1 bt169.2.1 bt169.2.2.1 bt169.2.2.2.1) else (slipwaylaw01_SemverBumps.j0 k a1 bt169.2.2.2.2 (decide (a1 > 2)) a0_0 a0_1 a0_2 a0_3 bt169.1 bt169.2.1 bt169.2.2.1 bt169.2.2.2.1)) else (slipwaylaw01_SemverBumps.j0 k a1 bt169.2.2.2.2 true a0_0 a0_1 a0_2 a0_3 bt169.1 bt169.2.1 bt169.2.2.1 bt169.2.2.2.1)))) else (some true))) else (some false))) = some r := h
  clear h
  replace H := Option.bind_eq_some_iff.mp H
  obtain ⟨t167, A30, H⟩ := H
  replace H : (if t167 = true then ((slipwaylaw01_short.f a0_3).bind fun t168 => (if t168 = true then ((semver_Version_Bump.f k a0_0 a0_1 a0_2 a0_3 a1).bind fun bt169 => ((slipwayref01_Version_Right.f k a0_0 a0_1 a0_2 a0_3).bind fun t175 => (if t175 = true then (if a1 < 0 then (slipwaylaw01_SemverBumps.j0 k a1 bt169.2.2.2.2 true a0_0 a0_1 a0_2 a0_3 bt169.1 bt169.2.1 bt169.2.2.1 bt169.2.2.2.1) else (slipwaylaw01_SemverBumps.j0 k a1 bt169.2.2.2.2 (decide (a1 > 2)) a0_0 a0_1 a0_2 a0_3 bt169.1 bt169.2.1 bt169.2.2.1 bt169.2.2.2.1)) else (slipwaylaw01_SemverBumps.j0 k a1 bt169.2.2.2.2 true a0_0 a0_1 a0_2 a0_3 bt169.1 bt169.2.1 bt169.2.2.1 bt169.2.2.2.1)))) else (some true))) else (some false)) = some r := H
  have A3 := Aside0.mk A30
  clear A30
  by_cases c4 : t167 = true
  · subst c4
    have H1 : ((slipwaylaw01_short.f a0_3).bind fun t168 => (if t168 = true then ((semver_Version_Bump.f k a0_0 a0_1 a0_2 a0_3 a1).bind fun bt169 => ((slipwayref01_Version_Right.f k a0_0 a0_1 a0_2 a0_3).bind fun t175 => (if t175 = true then (if a1 < 0 then (slipwaylaw01_SemverBumps.j0 k a1 bt169.2.2.2.2 true a0_0 a0_1 a0_2 a0_3 bt169.1 bt169.2.1 bt169.2.2.1 bt169.2.2.2.1) else (slipwaylaw01_SemverBumps.j0 k a1 bt169.2.2.2.2 (decide (a1 > 2)) a0_0 a0_1 a0_2 a0_3 bt169.1 bt169.2.1 bt169.2.2.1 bt169.2.2.2.1)) else (slipwaylaw01_SemverBumps.j0 k a1 bt169.2.2.2.2 true a0_0 a0_1 a0_2 a0_3 bt169.1 bt169.2.1 bt169.2.2.1 bt169.2.2.2.1)))) else (some true))) = some r := by rw [if_pos rfl] at H; exact H
    clear H
    have H := H1
    clear H1
    replace H := Option.bind_eq_some_iff.mp H
    obtain ⟨t168, A50, H⟩ := H
    replace H : (if t168 = true then ((semver_Version_Bump.f k a0_0 a0_1 a0_2 a0_3 a1).bind fun bt169 => ((slipwayref01_Version_Right.f k a0_0 a0_1 a0_2 a0_3).bind fun t175 => (if t175 = true then (if a1 < 0 then (slipwaylaw01_SemverBumps.j0 k a1 bt169.2.2.2.2 true a0_0 a0_1 a0_2 a0_3 bt169.1 bt169.2.1 bt169.2.2.1 bt169.2.2.2.1) else (slipwaylaw01_SemverBumps.j0 k a1 bt169.2.2.2.2 (decide (a1 > 2)) a0_0 a0_1 a0_2 a0_3 bt169.1 bt169.2.1 bt169.2.2.1 bt169.2.2.2.1)) else (slipwaylaw01_SemverBumps.j0 k a1 bt169.2.2.2.2 true a0_0 a0_1 a0_2 a0_3 bt169.1 bt169.2.1 bt169.2.2.1 bt169.2.2.2.1)))) else (some true)) = some r := H
    have A5 := Aside0.mk A50
    clear A50
    by_cases c6 : t168 = true
    · subst c6
      have H1 : ((semver_Version_Bump.f k a0_0 a0_1 a0_2 a0_3 a1).bind fun bt169 => ((slipwayref01_Version_Right.f k a0_0 a0_1 a0_2 a0_3).bind fun t175 => (if t175 = true then (if a1 < 0 then (slipwaylaw01_SemverBumps.j0 k a1 bt169.2.2.2.2 true a0_0 a0_1 a0_2 a0_3 bt169.1 bt169.2.1 bt169.2.2.1 bt169.2.2.2.1) else (slipwaylaw01_SemverBumps.j0 k a1 bt169.2.2.2.2 (decide (a1 > 2)) a0_0 a0_1 a0_2 a0_3 bt169.1 bt169.2.1 bt169.2.2.1 bt169.2.2.2.1)) else (slipwaylaw01_SemverBumps.j0 k a1 bt169.2.2.2.2 true a0_0 a0_1 a0_2 a0_3 bt169.1 bt169.2.1 bt169.2.2.1 bt169.2.2.2.1)))) = some r := by rw [if_pos rfl] at H; exact H
      clear H
      have H := H1
      clear H1
      replace H := Option.bind_eq_some_iff.mp H
      obtain ⟨⟨t169, t170, t171, t172, t173⟩, A70, H⟩ := H
      replace H : ((slipwayref01_Version_Right.f k a0_0 a0_1 a0_2 a0_3).bind fun t175 => (if t175 = true then (if a1 < 0 then (slipwaylaw01_SemverBumps.j0 k a1 t173 true a0_0 a0_1 a0_2 a0_3 t169 t170 t171 t172) else (slipwaylaw01_SemverBumps.j0 k a1 t173 (decide (a1 > 2)) a0_0 a0_1 a0_2 a0_3 t169 t170 t171 t172)) else (slipwaylaw01_SemverBumps.j0 k a1 t173 true a0_0 a0_1 a0_2 a0_3 t169 t170 t171 t172))) = some r := H
      have A7 := Aside0.mk A70
      clear A70
      have HC8 := Aside0.mk H
      clear H
      go_enter Tryd.func10, Tryd.ntmps10
      go_upto_region 6 with (first | ((with_reducible refine gate_dst (N := 2) rfl ?_); refine box_event ?hg (N := 2) ?hd (cs := #[.int .i64 a0_0, .int .i64 a0_1, .int .i64 a0_2, .string a0_3]) (t := 25) ?hr ?_; (case hd => rfl); (case hg => rfl); (case hr => first | (go_simp; done) | (go_simp; rfl)); intro gb166 hg w9 hbox hb; have n0_ := Aside0.mk (below_step (by repeat (first | (with_reducible first | exact HB.out | apply below_alloc | apply pw_below_drewN | apply below_drew1) | exact HB.out)) hb); have n1_ := Aside0.mk (hbox); have n2_ := Aside0.mk ((by rw [hg]; exact (below_size (by repeat (first | (with_reducible first | exact HB.out | apply below_alloc | apply pw_below_drewN | apply below_drew1) | exact HB.out))) : w.heap.size ≤ gb166)); have n3_ := Aside0.mk ((by rw [hg]; exact (below_size (by repeat (first | (with_reducible first | exact HB.out | apply below_alloc | apply pw_below_drewN | apply below_drew1) | exact HB.out))) : w.heap.size ≤ gb166)); clear HB; have HB := n0_; have BK166 := n1_; have GW166 := n2_; have GE166 := n3_; clear n0_ n1_ n2_ n3_; clear hb hbox hg) | ((with_reducible refine gate_callee (f := 11) rfl ?_); refine goesL_ (some 8) rfl rfl Tryd.func11 (by kernel_rfl) rfl #[] rfl (by (try simp only [List.map_toArray, List.map_cons, List.map_nil]); first | done | rfl | (simp only [List.length_drop, List.length_take]; rfl)) ?_; (with_reducible refine (slipwaylaw01_anchor.calls k  true _ (by first | exact HG.out | exact Gw.drewN HG.out _ | exact Gw.below HG.out (by repeat (first | (with_reducible first | exact HB.out | apply below_alloc | apply pw_below_drewN | apply below_drew1) | exact HB.out | refine below_set ?_ (Aside0.out (by assumption))))) A3.out).mono ?_); rintro e w10 ⟨rfl, hb⟩; refine ⟨_, rfl, ?_⟩; have n0_ := Aside0.mk (blk_below (g := gb166) (o := .cells #[.int .i64 a0_0, .int .i64 a0_1, .int .i64 a0_2, .string a0_3] 25 (0, 0)) (by (with_reducible repeat (first | refine blk_drewN ?_ _ | refine blk_drew ?_ | refine blk_alloc ?_ _)); exact BK166.out) hb); have n1_ := Aside0.mk (below_step (by repeat (first | (with_reducible first | exact HB.out | apply below_alloc | apply pw_below_drewN | apply below_drew1 | refine below_set ?_ GE166.out) | exact HB.out)) hb); clear BK166; clear HB; have BK166 := n0_; have HB := n1_; clear n0_ n1_; (try clear hb); (try clear hb2); (try clear hk); (try clear hi); have hcz11_0 : w10.cell? ⟨gb166, 0, none⟩ = some (.int .i64 a0_0) := (blk_cell BK166.out 0).trans rfl; have hcz11_1 : w10.cell? ⟨gb166, 1, none⟩ = some (.int .i64 a0_1) := (blk_cell BK166.out 1).trans rfl; have hcz11_2 : w10.cell? ⟨gb166, 2, none⟩ = some (.int .i64 a0_2) := (blk_cell BK166.out 2).trans rfl; have hcz11_3 : w10.cell? ⟨gb166, 3, none⟩ = some (.string a0_3) := (blk_cell BK166.out 3).trans rfl; have hfz11_0 := blk_frozen BK166.out 0; have hfz11_1 := blk_frozen BK166.out 1; have hfz11_2 := blk_frozen BK166.out 2; have hfz11_3 := blk_frozen BK166.out 3) | ((with_reducible refine gate_callee (f := 12) rfl ?_); refine goesL_ (some 12) rfl rfl Tryd.func12 (by kernel_rfl) rfl #[.string a0_3] rfl (by (try simp only [List.map_toArray, List.map_cons, List.map_nil]); first | done | rfl | (simp only [List.length_drop, List.length_take]; rfl)) ?_; (with_reducible refine (slipwaylaw01_short.calls a0_3 true _ A5.out).mono ?_); rintro e w' ⟨rfl, ⟨nd, rfl⟩⟩; refine ⟨_, rfl, ?_⟩; (try (rw [drewN_self w10]; generalize hq_ : World.drewN w10 _ = w10; have n0_ : Aside0 (w10.heap[gb166]? = some (.cells #[.int .i64 a0_0, .int .i64 a0_1, .int .i64 a0_2, .string a0_3] 25 (0, 0))) := ⟨by rw [← hq_]; exact (by (with_reducible repeat (first | refine blk_drewN ?_ _ | refine blk_drew ?_ | refine blk_alloc ?_ _)); exact BK166.out)⟩; have n1_ : Aside0 (Below w.heap.size w w10) := ⟨by rw [← hq_]; exact (by repeat (first | (with_reducible first | exact HB.out | apply below_alloc | apply pw_below_drewN | apply below_drew1 | refine below_set ?_ GE166.out) | exact HB.out))⟩; clear BK166 HB hq_; have BK166 := n0_; have HB := n1_; clear n0_ n1_; have hdz166_0 : w10.cell? ⟨gb166, 0, none⟩ = some (.int .i64 a0_0) := (blk_cell BK166.out 0).trans rfl; have hdf166_0 := blk_frozen BK166.out 0; have hdz166_1 : w10.cell? ⟨gb166, 1, none⟩ = some (.int .i64 a0_1) := (blk_cell BK166.out 1).trans rfl; have hdf166_1 := blk_frozen BK166.out 1; have hdz166_2 : w10.cell? ⟨gb166, 2, none⟩ = some (.int .i64 a0_2) := (blk_cell BK166.out 2).trans rfl; have hdf166_2 := blk_frozen BK166.out 2; have hdz166_3 : w10.cell? ⟨gb166, 3, none⟩ = some (.string a0_3) := (blk_cell BK166.out 3).trans rfl; have hdf166_3 := blk_frozen BK166.out 3))) | ((with_reducible refine gate_callee (f := 22) rfl ?_); refine goesL_ (some 17) rfl rfl Tryd.func22 (by kernel_rfl) rfl #[.agg #[.int .i64 a0_0, .int .i64 a0_1, .int .i64 a0_2, .string a0_3], .int .i64 a1] rfl (by (try simp only [List.map_toArray, List.map_cons, List.map_nil]); first | done | rfl | (simp only [List.length_drop, List.length_take]; rfl)) ?_; (with_reducible refine (semver_Version_Bump.calls k a0_0 a0_1 a0_2 a0_3 a1 t169 t170 t171 t172 t173 _ (by first | exact HG.out | exact Gw.drewN HG.out _ | exact Gw.below HG.out (by repeat (first | (with_reducible first | exact HB.out | apply below_alloc | apply pw_below_drewN | apply below_drew1) | exact HB.out | refine below_set ?_ (Aside0.out (by assumption))))) A7.out).mono ?_); rintro e w12 ⟨rfl, hb⟩; refine ⟨_, rfl, ?_⟩; have n0_ := Aside0.mk (blk_below (g := gb166) (o := .cells #[.int .i64 a0_0, .int .i64 a0_1, .int .i64 a0_2, .string a0_3] 25 (0, 0)) (by (with_reducible repeat (first | refine blk_drewN ?_ _ | refine blk_drew ?_ | refine blk_alloc ?_ _)); exact BK166.out) hb); have n1_ := Aside0.mk (below_step (by repeat (first | (with_reducible first | exact HB.out | apply below_alloc | apply pw_below_drewN | apply below_drew1 | refine below_set ?_ GE166.out) | exact HB.out)) hb); clear BK166; clear HB; have BK166 := n0_; have HB := n1_; clear n0_ n1_; (try clear hb); (try clear hb2); (try clear hk); (try clear hi)) | ((with_reducible refine gate_dst (N := 5) rfl ?_); refine box_event ?hg (N := 5) ?hd (cs := #[.int .i64 0, .int .i64 0, .int .i64 0, .string (⟨#[]⟩ : ByteArray)]) (t := 25) ?hr ?_; (case hd => rfl); (case hg => rfl); (case hr => first | (go_simp; done) | (go_simp; rfl)); intro gb174 hg w13 hbox hb; have n0_ := Aside0.mk (blk_below (g := gb166) (o := .cells #[.int .i64 a0_0, .int .i64 a0_1, .int .i64 a0_2, .string a0_3] 25 (0, 0)) (by (with_reducible repeat (first | refine blk_drewN ?_ _ | refine blk_drew ?_ | refine blk_alloc ?_ _)); exact BK166.out) hb); have n1_ := Aside0.mk (below_step (by repeat (first | (with_reducible first | exact HB.out | apply below_alloc | apply pw_below_drewN | apply below_drew1 | refine below_set ?_ GE166.out) | exact HB.out)) hb); have n2_ := Aside0.mk (hbox); have n3_ := Aside0.mk ((by rw [hg]; exact (below_size (by repeat (first | (with_reducible first | exact HB.out | apply below_alloc | apply pw_below_drewN | apply below_drew1 | refine below_set ?_ GE166.out) | exact HB.out))) : w.heap.size ≤ gb174)); have n4_ := Aside0.mk ((by rw [hg]; exact (below_size (by repeat (first | (with_reducible first | exact HB.out | apply below_alloc | apply pw_below_drewN | apply below_drew1 | refine below_set ?_ GE166.out) | exact HB.out))) : w.heap.size ≤ gb174)); have n5_ := Aside0.mk ((by rw [hg]; exact Nat.ne_of_lt (blk_lt (g := gb166) (o := .cells #[.int .i64 a0_0, .int .i64 a0_1, .int .i64 a0_2, .string a0_3] 25 (0, 0)) (by (with_reducible repeat (first | refine blk_drewN ?_ _ | refine blk_drew ?_ | refine blk_alloc ?_ _)); exact BK166.out)) : gb166 ≠ gb174)); have n6_ := Aside0.mk ((by rw [hg]; exact Nat.ne_of_gt (blk_lt (g := gb166) (o := .cells #[.int .i64 a0_0, .int .i64 a0_1, .int .i64 a0_2, .string a0_3] 25 (0, 0)) (by (with_reducible repeat (first | refine blk_drewN ?_ _ | refine blk_drew ?_ | refine blk_alloc ?_ _)); exact BK166.out)) : gb174 ≠ gb166)); clear BK166; clear HB; have BK166 := n0_; have HB := n1_; have BK174 := n2_; have GW174 := n3_; have GE174 := n4_; have NB166_174 := n5_; have NB174_166 := n6_; clear n0_ n1_ n2_ n3_ n4_ n5_ n6_; clear hb hbox hg; have hnb14 := NB174_166.out; have hnc14 := NB166_174.out; have hcz15_0 : w13.cell? ⟨gb174, 0, none⟩ = some (.int .i64 0) := (blk_cell BK174.out 0).trans rfl; have hcz15_1 : w13.cell? ⟨gb174, 1, none⟩ = some (.int .i64 0) := (blk_cell BK174.out 1).trans rfl; have hcz15_2 : w13.cell? ⟨gb174, 2, none⟩ = some (.int .i64 0) := (blk_cell BK174.out 2).trans rfl; have hcz15_3 : w13.cell? ⟨gb174, 3, none⟩ = some (.string (⟨#[]⟩ : ByteArray)) := (blk_cell BK174.out 3).trans rfl; have hfz15_0 := blk_frozen BK174.out 0; have hfz15_1 := blk_frozen BK174.out 1; have hfz15_2 := blk_frozen BK174.out 2; have hfz15_3 := blk_frozen BK174.out 3))
      (try simp only [Act.put, List.setIfInBounds_toArray, List.set_cons_zero, List.set_cons_succ])
      go_cut [30] (fun v30 wc => ∃ (kq : Nat) (x30_7 : Bool), v30 = .bool x30_7 ∧ Aside0 (slipwaylaw01_SemverBumps.j0 kq a1 t173 x30_7 a0_0 a0_1 a0_2 a0_3 t169 t170 t171 t172 = some r) ∧ Aside0 (kq ≤ k) ∧ Aside0 (wc.heap[gb166]? = some (.cells #[.int .i64 a0_0, .int .i64 a0_1, .int .i64 a0_2, .string a0_3] 25 (0, 0))) ∧ Aside0 (wc.heap[gb174]? = some (.cells #[.int .i64 t169, .int .i64 t170, .int .i64 t171, .string t172] 25 (0, 0))) ∧ Aside0 (Below w.heap.size w wc))
      case first =>
        have H := HC8.out
        clear HC8
        replace H := Option.bind_eq_some_iff.mp H
        obtain ⟨t175, A160, H⟩ := H
        replace H : (if t175 = true then (if a1 < 0 then (slipwaylaw01_SemverBumps.j0 k a1 t173 true a0_0 a0_1 a0_2 a0_3 t169 t170 t171 t172) else (slipwaylaw01_SemverBumps.j0 k a1 t173 (decide (a1 > 2)) a0_0 a0_1 a0_2 a0_3 t169 t170 t171 t172)) else (slipwaylaw01_SemverBumps.j0 k a1 t173 true a0_0 a0_1 a0_2 a0_3 t169 t170 t171 t172)) = some r := H
        have A16 := Aside0.mk A160
        clear A160
        by_cases c17 : t175 = true
        · subst c17
          have H1 : (if a1 < 0 then (slipwaylaw01_SemverBumps.j0 k a1 t173 true a0_0 a0_1 a0_2 a0_3 t169 t170 t171 t172) else (slipwaylaw01_SemverBumps.j0 k a1 t173 (decide (a1 > 2)) a0_0 a0_1 a0_2 a0_3 t169 t170 t171 t172)) = some r := by rw [if_pos rfl] at H; exact H
          clear H
          have H := H1
          clear H1
          by_cases c18 : a1 < 0
          · rw [if_pos c18] at H
            have c18b0 : decide (a1 < 0) = true := decide_eq_true c18
            clear c18
            (first | rw [c18b0] | (simp only [i64_w, i32_w]; rw [c18b0]) | skip)
            have H' := Aside0.mk H
            clear H
            have hnb19 := NB166_174.out
            have hnc19 := NB174_166.out
            have hcz20_0 : w13.cell? ⟨gb166, 0, none⟩ = some (.int .i64 a0_0) := (blk_cell BK166.out 0).trans rfl
            have hcz20_1 : w13.cell? ⟨gb166, 1, none⟩ = some (.int .i64 a0_1) := (blk_cell BK166.out 1).trans rfl
            have hcz20_2 : w13.cell? ⟨gb166, 2, none⟩ = some (.int .i64 a0_2) := (blk_cell BK166.out 2).trans rfl
            have hcz20_3 : w13.cell? ⟨gb166, 3, none⟩ = some (.string a0_3) := (blk_cell BK166.out 3).trans rfl
            have hfz20_0 := blk_frozen BK166.out 0
            have hfz20_1 := blk_frozen BK166.out 1
            have hfz20_2 := blk_frozen BK166.out 2
            have hfz20_3 := blk_frozen BK166.out 3
            go_wp2_with (first | ((with_reducible refine gate_callee (f := 15) rfl ?_); refine goesL_ (some 21) rfl rfl Tryd.func15 (by kernel_rfl) rfl #[.agg #[.int .i64 a0_0, .int .i64 a0_1, .int .i64 a0_2, .string a0_3]] rfl (by (try simp only [List.map_toArray, List.map_cons, List.map_nil]); first | done | rfl | (simp only [List.length_drop, List.length_take]; rfl)) ?_; (with_reducible refine (slipwayref01_Version_Right.calls k a0_0 a0_1 a0_2 a0_3 true _ A16.out).mono ?_); rintro e w21 ⟨rfl, hb⟩; refine ⟨_, rfl, ?_⟩; have n0_ := Aside0.mk (blk_below (g := gb166) (o := .cells #[.int .i64 a0_0, .int .i64 a0_1, .int .i64 a0_2, .string a0_3] 25 (0, 0)) (by (with_reducible repeat (first | refine blk_drewN ?_ _ | refine blk_drew ?_ | refine blk_alloc ?_ _)); refine blk_far ?_ NB166_174.out _; (with_reducible repeat (first | refine blk_drewN ?_ _ | refine blk_drew ?_ | refine blk_alloc ?_ _)); refine blk_far ?_ NB166_174.out _; (with_reducible repeat (first | refine blk_drewN ?_ _ | refine blk_drew ?_ | refine blk_alloc ?_ _)); refine blk_far ?_ NB166_174.out _; (with_reducible repeat (first | refine blk_drewN ?_ _ | refine blk_drew ?_ | refine blk_alloc ?_ _)); refine blk_far ?_ NB166_174.out _; (with_reducible repeat (first | refine blk_drewN ?_ _ | refine blk_drew ?_ | refine blk_alloc ?_ _)); exact BK166.out) hb); have n1_ := Aside0.mk (blk_below (g := gb174) (o := .cells #[.int .i64 t169, .int .i64 t170, .int .i64 t171, .string t172] 25 (0, 0)) (by (with_reducible repeat (first | refine blk_drewN ?_ _ | refine blk_drew ?_ | refine blk_alloc ?_ _)); refine blk_put (cs := #[.int .i64 t169, .int .i64 t170, .int .i64 t171, .string (⟨#[]⟩ : ByteArray)]) ?_ 3 _ rfl; (with_reducible repeat (first | refine blk_drewN ?_ _ | refine blk_drew ?_ | refine blk_alloc ?_ _)); refine blk_put (cs := #[.int .i64 t169, .int .i64 t170, .int .i64 0, .string (⟨#[]⟩ : ByteArray)]) ?_ 2 _ rfl; (with_reducible repeat (first | refine blk_drewN ?_ _ | refine blk_drew ?_ | refine blk_alloc ?_ _)); refine blk_put (cs := #[.int .i64 t169, .int .i64 0, .int .i64 0, .string (⟨#[]⟩ : ByteArray)]) ?_ 1 _ rfl; (with_reducible repeat (first | refine blk_drewN ?_ _ | refine blk_drew ?_ | refine blk_alloc ?_ _)); refine blk_put (cs := #[.int .i64 0, .int .i64 0, .int .i64 0, .string (⟨#[]⟩ : ByteArray)]) ?_ 0 _ rfl; (with_reducible repeat (first | refine blk_drewN ?_ _ | refine blk_drew ?_ | refine blk_alloc ?_ _)); exact BK174.out) hb); have n2_ := Aside0.mk (below_step (by repeat (first | (with_reducible first | exact HB.out | apply below_alloc | apply pw_below_drewN | apply below_drew1 | refine below_set ?_ GE166.out | refine below_set ?_ GE174.out) | exact HB.out)) hb); clear BK166; clear BK174; clear HB; have BK166 := n0_; have BK174 := n1_; have HB := n2_; clear n0_ n1_ n2_; (try clear hb); (try clear hb2); (try clear hk); (try clear hi)))
            go_meet
            case rel => exact ⟨_, (true), (by first | rfl | (simp; done) | (simp [*]; done)), H', ⟨by first | omega | exact Nat.le_refl _⟩, ⟨by (with_reducible repeat (first | refine blk_drewN ?_ _ | refine blk_drew ?_ | refine blk_alloc ?_ _)); exact BK166.out⟩, ⟨by (with_reducible repeat (first | refine blk_drewN ?_ _ | refine blk_drew ?_ | refine blk_alloc ?_ _)); exact BK174.out⟩, ⟨by repeat (first | (with_reducible first | exact HB.out | apply below_alloc | apply pw_below_drewN | apply below_drew1 | refine below_set ?_ GE166.out | refine below_set ?_ GE174.out) | exact HB.out)⟩⟩
          · rw [if_neg c18] at H
            have c18b0 : decide (a1 < 0) = false := decide_eq_false c18
            clear c18
            (first | rw [c18b0] | (simp only [i64_w, i32_w]; rw [c18b0]) | skip)
            have H' := Aside0.mk H
            clear H
            have hnb22 := NB166_174.out
            have hnc22 := NB174_166.out
            have hcz23_0 : w13.cell? ⟨gb166, 0, none⟩ = some (.int .i64 a0_0) := (blk_cell BK166.out 0).trans rfl
            have hcz23_1 : w13.cell? ⟨gb166, 1, none⟩ = some (.int .i64 a0_1) := (blk_cell BK166.out 1).trans rfl
            have hcz23_2 : w13.cell? ⟨gb166, 2, none⟩ = some (.int .i64 a0_2) := (blk_cell BK166.out 2).trans rfl
            have hcz23_3 : w13.cell? ⟨gb166, 3, none⟩ = some (.string a0_3) := (blk_cell BK166.out 3).trans rfl
            have hfz23_0 := blk_frozen BK166.out 0
            have hfz23_1 := blk_frozen BK166.out 1
            have hfz23_2 := blk_frozen BK166.out 2
            have hfz23_3 := blk_frozen BK166.out 3
            go_wp2_with (first | ((with_reducible refine gate_callee (f := 15) rfl ?_); refine goesL_ (some 21) rfl rfl Tryd.func15 (by kernel_rfl) rfl #[.agg #[.int .i64 a0_0, .int .i64 a0_1, .int .i64 a0_2, .string a0_3]] rfl (by (try simp only [List.map_toArray, List.map_cons, List.map_nil]); first | done | rfl | (simp only [List.length_drop, List.length_take]; rfl)) ?_; (with_reducible refine (slipwayref01_Version_Right.calls k a0_0 a0_1 a0_2 a0_3 true _ A16.out).mono ?_); rintro e w24 ⟨rfl, hb⟩; refine ⟨_, rfl, ?_⟩; have n0_ := Aside0.mk (blk_below (g := gb166) (o := .cells #[.int .i64 a0_0, .int .i64 a0_1, .int .i64 a0_2, .string a0_3] 25 (0, 0)) (by (with_reducible repeat (first | refine blk_drewN ?_ _ | refine blk_drew ?_ | refine blk_alloc ?_ _)); refine blk_far ?_ NB166_174.out _; (with_reducible repeat (first | refine blk_drewN ?_ _ | refine blk_drew ?_ | refine blk_alloc ?_ _)); refine blk_far ?_ NB166_174.out _; (with_reducible repeat (first | refine blk_drewN ?_ _ | refine blk_drew ?_ | refine blk_alloc ?_ _)); refine blk_far ?_ NB166_174.out _; (with_reducible repeat (first | refine blk_drewN ?_ _ | refine blk_drew ?_ | refine blk_alloc ?_ _)); refine blk_far ?_ NB166_174.out _; (with_reducible repeat (first | refine blk_drewN ?_ _ | refine blk_drew ?_ | refine blk_alloc ?_ _)); exact BK166.out) hb); have n1_ := Aside0.mk (blk_below (g := gb174) (o := .cells #[.int .i64 t169, .int .i64 t170, .int .i64 t171, .string t172] 25 (0, 0)) (by (with_reducible repeat (first | refine blk_drewN ?_ _ | refine blk_drew ?_ | refine blk_alloc ?_ _)); refine blk_put (cs := #[.int .i64 t169, .int .i64 t170, .int .i64 t171, .string (⟨#[]⟩ : ByteArray)]) ?_ 3 _ rfl; (with_reducible repeat (first | refine blk_drewN ?_ _ | refine blk_drew ?_ | refine blk_alloc ?_ _)); refine blk_put (cs := #[.int .i64 t169, .int .i64 t170, .int .i64 0, .string (⟨#[]⟩ : ByteArray)]) ?_ 2 _ rfl; (with_reducible repeat (first | refine blk_drewN ?_ _ | refine blk_drew ?_ | refine blk_alloc ?_ _)); refine blk_put (cs := #[.int .i64 t169, .int .i64 0, .int .i64 0, .string (⟨#[]⟩ : ByteArray)]) ?_ 1 _ rfl; (with_reducible repeat (first | refine blk_drewN ?_ _ | refine blk_drew ?_ | refine blk_alloc ?_ _)); refine blk_put (cs := #[.int .i64 0, .int .i64 0, .int .i64 0, .string (⟨#[]⟩ : ByteArray)]) ?_ 0 _ rfl; (with_reducible repeat (first | refine blk_drewN ?_ _ | refine blk_drew ?_ | refine blk_alloc ?_ _)); exact BK174.out) hb); have n2_ := Aside0.mk (below_step (by repeat (first | (with_reducible first | exact HB.out | apply below_alloc | apply pw_below_drewN | apply below_drew1 | refine below_set ?_ GE166.out | refine below_set ?_ GE174.out) | exact HB.out)) hb); clear BK166; clear BK174; clear HB; have BK166 := n0_; have BK174 := n1_; have HB := n2_; clear n0_ n1_ n2_; (try clear hb); (try clear hb2); (try clear hk); (try clear hi)))
            go_meet
            case rel => exact ⟨_, (decide (a1 > 2)), (by first | rfl | (simp; done) | (simp [*]; done)), H', ⟨by first | omega | exact Nat.le_refl _⟩, ⟨by (with_reducible repeat (first | refine blk_drewN ?_ _ | refine blk_drew ?_ | refine blk_alloc ?_ _)); exact BK166.out⟩, ⟨by (with_reducible repeat (first | refine blk_drewN ?_ _ | refine blk_drew ?_ | refine blk_alloc ?_ _)); exact BK174.out⟩, ⟨by repeat (first | (with_reducible first | exact HB.out | apply below_alloc | apply pw_below_drewN | apply below_drew1 | refine below_set ?_ GE166.out | refine below_set ?_ GE174.out) | exact HB.out)⟩⟩
        · replace c17 := Bool.eq_false_iff.mpr c17
          subst c17
          have H1 : (slipwaylaw01_SemverBumps.j0 k a1 t173 true a0_0 a0_1 a0_2 a0_3 t169 t170 t171 t172) = some r := by rw [if_neg (show ¬ (false = true) by decide)] at H; exact H
          clear H
          have H := H1
          clear H1
          have H' := Aside0.mk H
          clear H
          have hnb25 := NB166_174.out
          have hnc25 := NB174_166.out
          have hcz26_0 : w13.cell? ⟨gb166, 0, none⟩ = some (.int .i64 a0_0) := (blk_cell BK166.out 0).trans rfl
          have hcz26_1 : w13.cell? ⟨gb166, 1, none⟩ = some (.int .i64 a0_1) := (blk_cell BK166.out 1).trans rfl
          have hcz26_2 : w13.cell? ⟨gb166, 2, none⟩ = some (.int .i64 a0_2) := (blk_cell BK166.out 2).trans rfl
          have hcz26_3 : w13.cell? ⟨gb166, 3, none⟩ = some (.string a0_3) := (blk_cell BK166.out 3).trans rfl
          have hfz26_0 := blk_frozen BK166.out 0
          have hfz26_1 := blk_frozen BK166.out 1
          have hfz26_2 := blk_frozen BK166.out 2
          have hfz26_3 := blk_frozen BK166.out 3
          go_wp2_with (first | ((with_reducible refine gate_callee (f := 15) rfl ?_); refine goesL_ (some 21) rfl rfl Tryd.func15 (by kernel_rfl) rfl #[.agg #[.int .i64 a0_0, .int .i64 a0_1, .int .i64 a0_2, .string a0_3]] rfl (by (try simp only [List.map_toArray, List.map_cons, List.map_nil]); first | done | rfl | (simp only [List.length_drop, List.length_take]; rfl)) ?_; (with_reducible refine (slipwayref01_Version_Right.calls k a0_0 a0_1 a0_2 a0_3 false _ A16.out).mono ?_); rintro e w27 ⟨rfl, hb⟩; refine ⟨_, rfl, ?_⟩; have n0_ := Aside0.mk (blk_below (g := gb166) (o := .cells #[.int .i64 a0_0, .int .i64 a0_1, .int .i64 a0_2, .string a0_3] 25 (0, 0)) (by (with_reducible repeat (first | refine blk_drewN ?_ _ | refine blk_drew ?_ | refine blk_alloc ?_ _)); refine blk_far ?_ NB166_174.out _; (with_reducible repeat (first | refine blk_drewN ?_ _ | refine blk_drew ?_ | refine blk_alloc ?_ _)); refine blk_far ?_ NB166_174.out _; (with_reducible repeat (first | refine blk_drewN ?_ _ | refine blk_drew ?_ | refine blk_alloc ?_ _)); refine blk_far ?_ NB166_174.out _; (with_reducible repeat (first | refine blk_drewN ?_ _ | refine blk_drew ?_ | refine blk_alloc ?_ _)); refine blk_far ?_ NB166_174.out _; (with_reducible repeat (first | refine blk_drewN ?_ _ | refine blk_drew ?_ | refine blk_alloc ?_ _)); exact BK166.out) hb); have n1_ := Aside0.mk (blk_below (g := gb174) (o := .cells #[.int .i64 t169, .int .i64 t170, .int .i64 t171, .string t172] 25 (0, 0)) (by (with_reducible repeat (first | refine blk_drewN ?_ _ | refine blk_drew ?_ | refine blk_alloc ?_ _)); refine blk_put (cs := #[.int .i64 t169, .int .i64 t170, .int .i64 t171, .string (⟨#[]⟩ : ByteArray)]) ?_ 3 _ rfl; (with_reducible repeat (first | refine blk_drewN ?_ _ | refine blk_drew ?_ | refine blk_alloc ?_ _)); refine blk_put (cs := #[.int .i64 t169, .int .i64 t170, .int .i64 0, .string (⟨#[]⟩ : ByteArray)]) ?_ 2 _ rfl; (with_reducible repeat (first | refine blk_drewN ?_ _ | refine blk_drew ?_ | refine blk_alloc ?_ _)); refine blk_put (cs := #[.int .i64 t169, .int .i64 0, .int .i64 0, .string (⟨#[]⟩ : ByteArray)]) ?_ 1 _ rfl; (with_reducible repeat (first | refine blk_drewN ?_ _ | refine blk_drew ?_ | refine blk_alloc ?_ _)); refine blk_put (cs := #[.int .i64 0, .int .i64 0, .int .i64 0, .string (⟨#[]⟩ : ByteArray)]) ?_ 0 _ rfl; (with_reducible repeat (first | refine blk_drewN ?_ _ | refine blk_drew ?_ | refine blk_alloc ?_ _)); exact BK174.out) hb); have n2_ := Aside0.mk (below_step (by repeat (first | (with_reducible first | exact HB.out | apply below_alloc | apply pw_below_drewN | apply below_drew1 | refine below_set ?_ GE166.out | refine below_set ?_ GE174.out) | exact HB.out)) hb); clear BK166; clear BK174; clear HB; have BK166 := n0_; have BK174 := n1_; have HB := n2_; clear n0_ n1_ n2_; (try clear hb); (try clear hb2); (try clear hk); (try clear hi)))
          go_meet
          case rel => exact ⟨_, (true), (by first | rfl | (simp; done) | (simp [*]; done)), H', ⟨by first | omega | exact Nat.le_refl _⟩, ⟨by (with_reducible repeat (first | refine blk_drewN ?_ _ | refine blk_drew ?_ | refine blk_alloc ?_ _)); exact BK166.out⟩, ⟨by (with_reducible repeat (first | refine blk_drewN ?_ _ | refine blk_drew ?_ | refine blk_alloc ?_ _)); exact BK174.out⟩, ⟨by repeat (first | (with_reducible first | exact HB.out | apply below_alloc | apply pw_below_drewN | apply below_drew1 | refine below_set ?_ GE166.out | refine below_set ?_ GE174.out) | exact HB.out)⟩⟩
      case rest =>
        clear HC8
        try clear c1
        try clear c2
        try clear p2
        try clear c4
        try clear c6
        try clear c10
        try clear c11
        try clear c12
        try clear c14
        try clear c15
        try clear c17
        try clear c18
        try clear c18b0
        try clear c19
        try clear c22
        try clear c25
        try clear hcz11_0
        try clear hcz11_1
        try clear hcz11_2
        try clear hcz11_3
        try clear hcz15_0
        try clear hcz15_1
        try clear hcz15_2
        try clear hcz15_3
        try clear hcz20_0
        try clear hcz20_1
        try clear hcz20_2
        try clear hcz20_3
        try clear hcz23_0
        try clear hcz23_1
        try clear hcz23_2
        try clear hcz23_3
        try clear hcz26_0
        try clear hcz26_1
        try clear hcz26_2
        try clear hcz26_3
        try clear hfz11_0
        try clear hfz11_1
        try clear hfz11_2
        try clear hfz11_3
        try clear hfz15_0
        try clear hfz15_1
        try clear hfz15_2
        try clear hfz15_3
        try clear hfz20_0
        try clear hfz20_1
        try clear hfz20_2
        try clear hfz20_3
        try clear hfz23_0
        try clear hfz23_1
        try clear hfz23_2
        try clear hfz23_3
        try clear hfz26_0
        try clear hfz26_1
        try clear hfz26_2
        try clear hfz26_3
        obtain ⟨kq, x30_7, rfl, HA, HJ7, BK166, BK174, HB⟩ := hcut
        cases kq with
        | zero => exact absurd HA.out (by simp [slipwaylaw01_SemverBumps.j0])
        | succ kj7 =>
          have H := HA.out
          clear HA
          simp only [slipwaylaw01_SemverBumps.j0] at H
          by_cases c28 : x30_7 = true
          · subst c28
            have H1 : (if t173 = 12 then (some (t169 == 0 && (t170 == 0 && (t171 == 0 && (t172.toList == ([] : List UInt8)))))) else (some false)) = some r := by rw [if_pos rfl] at H; exact H
            clear H
            have H := H1
            clear H1
            by_cases c29 : t173 = 12
            · rw [if_pos c29] at H
              have c29b0 : (t173 == 12) = true := beq_iff_eq.mpr c29
              have c29b1 : (t173 != 12) = false := bne_eq_false_iff_eq.mpr c29
              clear c29
              obtain rfl := Option.some.inj H
              have hnb30 := NB174_166.out
              have hnc30 := NB166_174.out
              have hcz31_0 : wc.cell? ⟨gb174, 0, none⟩ = some (.int .i64 t169) := (blk_cell BK174.out 0).trans rfl
              have hcz31_1 : wc.cell? ⟨gb174, 1, none⟩ = some (.int .i64 t170) := (blk_cell BK174.out 1).trans rfl
              have hcz31_2 : wc.cell? ⟨gb174, 2, none⟩ = some (.int .i64 t171) := (blk_cell BK174.out 2).trans rfl
              have hcz31_3 : wc.cell? ⟨gb174, 3, none⟩ = some (.string t172) := (blk_cell BK174.out 3).trans rfl
              have hfz31_0 := blk_frozen BK174.out 0
              have hfz31_1 := blk_frozen BK174.out 1
              have hfz31_2 := blk_frozen BK174.out 2
              have hfz31_3 := blk_frozen BK174.out 3
              go_wp2
              go_ret
              exact ⟨by first | rfl | (simp [errW_none, errW_some] <;> rfl) | (simp [*, errW_none, errW_some] <;> rfl), by repeat (first | (with_reducible first | exact HB.out | apply below_alloc | apply pw_below_drewN | apply below_drew1 | refine below_set ?_ GE166.out | refine below_set ?_ GE174.out) | exact HB.out)⟩
            · rw [if_neg c29] at H
              have c29b0 : (t173 == 12) = false := beq_eq_false_iff_ne.mpr c29
              have c29b1 : (t173 != 12) = true := bne_iff_ne.mpr c29
              obtain rfl := Option.some.inj H
              go_wp2
              go_ret
              exact ⟨by first | rfl | (simp [errW_none, errW_some] <;> rfl) | (simp [*, errW_none, errW_some] <;> rfl), by repeat (first | (with_reducible first | exact HB.out | apply below_alloc | apply pw_below_drewN | apply below_drew1 | refine below_set ?_ GE166.out | refine below_set ?_ GE174.out) | exact HB.out)⟩
          · replace c28 := Bool.eq_false_iff.mpr c28
            subst c28
            have H1 : (if a1 = 0 then (if (wrap64 (a0_0 + 1)) > 999999 then (if t173 = 11 then (some (t169 == 0 && (t170 == 0 && (t171 == 0 && (t172.toList == ([] : List UInt8)))))) else (some false)) else (if 0 > 999999 then (if t173 = 11 then (some (t169 == 0 && (t170 == 0 && (t171 == 0 && (t172.toList == ([] : List UInt8)))))) else (some false)) else (if t173 = 0 then (if (t169 == (wrap64 (a0_0 + 1)) && (t170 == 0 && (t171 == 0 && (t172.toList == ([] : List UInt8))))) = true then ((semver_Compare.f kj7 a0_0 a0_1 a0_2 a0_3 t169 t170 t171 t172).bind fun t177 => (some (t177 == (-1)))) else (some false)) else (some false)))) else (if a1 = 1 then (if a0_0 > 999999 then (if t173 = 11 then (some (t169 == 0 && (t170 == 0 && (t171 == 0 && (t172.toList == ([] : List UInt8)))))) else (some false)) else (if (wrap64 (a0_1 + 1)) > 999999 then (if t173 = 11 then (some (t169 == 0 && (t170 == 0 && (t171 == 0 && (t172.toList == ([] : List UInt8)))))) else (some false)) else (if 0 > 999999 then (if t173 = 11 then (some (t169 == 0 && (t170 == 0 && (t171 == 0 && (t172.toList == ([] : List UInt8)))))) else (some false)) else (if t173 = 0 then (if (t169 == a0_0 && (t170 == (wrap64 (a0_1 + 1)) && (t171 == 0 && (t172.toList == ([] : List UInt8))))) = true then ((semver_Compare.f kj7 a0_0 a0_1 a0_2 a0_3 t169 t170 t171 t172).bind fun t178 => (some (t178 == (-1)))) else (some false)) else (some false))))) else (if a0_3.toList = ([] : List UInt8) then (if a0_0 > 999999 then (if t173 = 11 then (some (t169 == 0 && (t170 == 0 && (t171 == 0 && (t172.toList == ([] : List UInt8)))))) else (some false)) else (if a0_1 > 999999 then (if t173 = 11 then (some (t169 == 0 && (t170 == 0 && (t171 == 0 && (t172.toList == ([] : List UInt8)))))) else (some false)) else (if (wrap64 (a0_2 + 1)) > 999999 then (if t173 = 11 then (some (t169 == 0 && (t170 == 0 && (t171 == 0 && (t172.toList == ([] : List UInt8)))))) else (some false)) else (if t173 = 0 then (if (t169 == a0_0 && (t170 == a0_1 && (t171 == (wrap64 (a0_2 + 1)) && (t172.toList == ([] : List UInt8))))) = true then ((semver_Compare.f kj7 a0_0 a0_1 a0_2 a0_3 t169 t170 t171 t172).bind fun t179 => (some (t179 == (-1)))) else (some false)) else (some false))))) else (if a0_0 > 999999 then (if t173 = 11 then (some (t169 == 0 && (t170 == 0 && (t171 == 0 && (t172.toList == ([] : List UInt8)))))) else (some false)) else (if a0_1 > 999999 then (if t173 = 11 then (some (t169 == 0 && (t170 == 0 && (t171 == 0 && (t172.toList == ([] : List UInt8)))))) else (some false)) else (if a0_2 > 999999 then (if t173 = 11 then (some (t169 == 0 && (t170 == 0 && (t171 == 0 && (t172.toList == ([] : List UInt8)))))) else (some false)) else (if t173 = 0 then (if (t169 == a0_0 && (t170 == a0_1 && (t171 == a0_2 && (t172.toList == ([] : List UInt8))))) = true then ((semver_Compare.f kj7 a0_0 a0_1 a0_2 a0_3 t169 t170 t171 t172).bind fun t180 => (some (t180 == (-1)))) else (some false)) else (some false)))))))) = some r := by rw [if_neg (show ¬ (false = true) by decide)] at H; exact H
            clear H
            have H := H1
            clear H1
            have HT := Aside0.mk H
            clear H
            have hnb35 := NB166_174.out
            have hnc35 := NB174_166.out
            have hya0 : wc.cell? ⟨gb166, 0, none⟩ = some (.int .i64 a0_0) := (blk_cell BK166.out 0).trans rfl
            have hya1 : wc.cell? ⟨gb166, 1, none⟩ = some (.int .i64 a0_1) := (blk_cell BK166.out 1).trans rfl
            have hya2 : wc.cell? ⟨gb166, 2, none⟩ = some (.int .i64 a0_2) := (blk_cell BK166.out 2).trans rfl
            have hya3 : wc.cell? ⟨gb166, 3, none⟩ = some (.string a0_3) := (blk_cell BK166.out 3).trans rfl
            have hyaf0 := blk_frozen BK166.out 0
            have hyaf1 := blk_frozen BK166.out 1
            have hyaf2 := blk_frozen BK166.out 2
            have hyaf3 := blk_frozen BK166.out 3
            go_upto_block 0 with (first | ((with_reducible refine gate_dst (N := 7) rfl ?_); refine box_event ?hg (N := 7) ?hd (cs := #[.int .i64 0, .int .i64 0, .int .i64 0, .string (⟨#[]⟩ : ByteArray)]) (t := 25) ?hr ?_; (case hd => rfl); (case hg => rfl); (case hr => first | (go_simp; done) | (go_simp; rfl)); intro gb176 hg w72 hbox hb; have n0_ := Aside0.mk (blk_below (g := gb166) (o := .cells #[.int .i64 a0_0, .int .i64 a0_1, .int .i64 a0_2, .string a0_3] 25 (0, 0)) (by (with_reducible repeat (first | refine blk_drewN ?_ _ | refine blk_drew ?_ | refine blk_alloc ?_ _)); exact BK166.out) hb); have n1_ := Aside0.mk (blk_below (g := gb174) (o := .cells #[.int .i64 t169, .int .i64 t170, .int .i64 t171, .string t172] 25 (0, 0)) (by (with_reducible repeat (first | refine blk_drewN ?_ _ | refine blk_drew ?_ | refine blk_alloc ?_ _)); exact BK174.out) hb); have n2_ := Aside0.mk (below_step (by repeat (first | (with_reducible first | exact HB.out | apply below_alloc | apply pw_below_drewN | apply below_drew1 | refine below_set ?_ GE166.out | refine below_set ?_ GE174.out) | exact HB.out)) hb); have n3_ := Aside0.mk (hbox); have n4_ := Aside0.mk ((by rw [hg]; exact (below_size (by repeat (first | (with_reducible first | exact HB.out | apply below_alloc | apply pw_below_drewN | apply below_drew1 | refine below_set ?_ GE166.out | refine below_set ?_ GE174.out) | exact HB.out))) : w.heap.size ≤ gb176)); have n5_ := Aside0.mk ((by rw [hg]; exact (below_size (by repeat (first | (with_reducible first | exact HB.out | apply below_alloc | apply pw_below_drewN | apply below_drew1 | refine below_set ?_ GE166.out | refine below_set ?_ GE174.out) | exact HB.out))) : w.heap.size ≤ gb176)); have n6_ := Aside0.mk ((by rw [hg]; exact Nat.ne_of_lt (blk_lt (g := gb166) (o := .cells #[.int .i64 a0_0, .int .i64 a0_1, .int .i64 a0_2, .string a0_3] 25 (0, 0)) (by (with_reducible repeat (first | refine blk_drewN ?_ _ | refine blk_drew ?_ | refine blk_alloc ?_ _)); exact BK166.out)) : gb166 ≠ gb176)); have n7_ := Aside0.mk ((by rw [hg]; exact Nat.ne_of_gt (blk_lt (g := gb166) (o := .cells #[.int .i64 a0_0, .int .i64 a0_1, .int .i64 a0_2, .string a0_3] 25 (0, 0)) (by (with_reducible repeat (first | refine blk_drewN ?_ _ | refine blk_drew ?_ | refine blk_alloc ?_ _)); exact BK166.out)) : gb176 ≠ gb166)); have n8_ := Aside0.mk ((by rw [hg]; exact Nat.ne_of_lt (blk_lt (g := gb174) (o := .cells #[.int .i64 t169, .int .i64 t170, .int .i64 t171, .string t172] 25 (0, 0)) (by (with_reducible repeat (first | refine blk_drewN ?_ _ | refine blk_drew ?_ | refine blk_alloc ?_ _)); exact BK174.out)) : gb174 ≠ gb176)); have n9_ := Aside0.mk ((by rw [hg]; exact Nat.ne_of_gt (blk_lt (g := gb174) (o := .cells #[.int .i64 t169, .int .i64 t170, .int .i64 t171, .string t172] 25 (0, 0)) (by (with_reducible repeat (first | refine blk_drewN ?_ _ | refine blk_drew ?_ | refine blk_alloc ?_ _)); exact BK174.out)) : gb176 ≠ gb174)); clear BK166; clear BK174; clear HB; have BK166 := n0_; have BK174 := n1_; have HB := n2_; have BK176 := n3_; have GW176 := n4_; have GE176 := n5_; have NB166_176 := n6_; have NB176_166 := n7_; have NB174_176 := n8_; have NB176_174 := n9_; clear n0_ n1_ n2_ n3_ n4_ n5_ n6_ n7_ n8_ n9_; clear hb hbox hg; have hnb73 := NB176_166.out; have hnc73 := NB166_176.out; have hnb74 := NB176_174.out; have hnc74 := NB174_176.out; have hcz75_0 : w72.cell? ⟨gb176, 0, none⟩ = some (.int .i64 0) := (blk_cell BK176.out 0).trans rfl; have hcz75_1 : w72.cell? ⟨gb176, 1, none⟩ = some (.int .i64 0) := (blk_cell BK176.out 1).trans rfl; have hcz75_2 : w72.cell? ⟨gb176, 2, none⟩ = some (.int .i64 0) := (blk_cell BK176.out 2).trans rfl; have hcz75_3 : w72.cell? ⟨gb176, 3, none⟩ = some (.string (⟨#[]⟩ : ByteArray)) := (blk_cell BK176.out 3).trans rfl; have hfz75_0 := blk_frozen BK176.out 0; have hfz75_1 := blk_frozen BK176.out 1; have hfz75_2 := blk_frozen BK176.out 2; have hfz75_3 := blk_frozen BK176.out 3; have hcz76_0 : w72.cell? ⟨gb166, 0, none⟩ = some (.int .i64 a0_0) := (blk_cell BK166.out 0).trans rfl; have hcz76_1 : w72.cell? ⟨gb166, 1, none⟩ = some (.int .i64 a0_1) := (blk_cell BK166.out 1).trans rfl; have hcz76_2 : w72.cell? ⟨gb166, 2, none⟩ = some (.int .i64 a0_2) := (blk_cell BK166.out 2).trans rfl; have hcz76_3 : w72.cell? ⟨gb166, 3, none⟩ = some (.string a0_3) := (blk_cell BK166.out 3).trans rfl; have hfz76_0 := blk_frozen BK166.out 0; have hfz76_1 := blk_frozen BK166.out 1; have hfz76_2 := blk_frozen BK166.out 2; have hfz76_3 := blk_frozen BK166.out 3; have hcz77_0 : w72.cell? ⟨gb174, 0, none⟩ = some (.int .i64 t169) := (blk_cell BK174.out 0).trans rfl; have hcz77_1 : w72.cell? ⟨gb174, 1, none⟩ = some (.int .i64 t170) := (blk_cell BK174.out 1).trans rfl; have hcz77_2 : w72.cell? ⟨gb174, 2, none⟩ = some (.int .i64 t171) := (blk_cell BK174.out 2).trans rfl; have hcz77_3 : w72.cell? ⟨gb174, 3, none⟩ = some (.string t172) := (blk_cell BK174.out 3).trans rfl; have hfz77_0 := blk_frozen BK174.out 0; have hfz77_1 := blk_frozen BK174.out 1; have hfz77_2 := blk_frozen BK174.out 2; have hfz77_3 := blk_frozen BK174.out 3))
            have n0_ : Aside0 (((((w72.setCell ⟨gb176, 0, none⟩ (.int .i64 a0_0)).setCell ⟨gb176, 1, none⟩ (.int .i64 a0_1)).setCell ⟨gb176, 2, none⟩ (.int .i64 a0_2)).setCell ⟨gb176, 3, none⟩ (.string (⟨#[]⟩ : ByteArray))).heap[gb166]? = some (.cells #[.int .i64 a0_0, .int .i64 a0_1, .int .i64 a0_2, .string a0_3] 25 (0, 0))) := ⟨by (with_reducible repeat (first | refine blk_drewN ?_ _ | refine blk_drew ?_ | refine blk_alloc ?_ _ | refine blk_far ?_ NB166_176.out _)); exact BK166.out⟩
            have n1_ : Aside0 (((((w72.setCell ⟨gb176, 0, none⟩ (.int .i64 a0_0)).setCell ⟨gb176, 1, none⟩ (.int .i64 a0_1)).setCell ⟨gb176, 2, none⟩ (.int .i64 a0_2)).setCell ⟨gb176, 3, none⟩ (.string (⟨#[]⟩ : ByteArray))).heap[gb174]? = some (.cells #[.int .i64 t169, .int .i64 t170, .int .i64 t171, .string t172] 25 (0, 0))) := ⟨by (with_reducible repeat (first | refine blk_drewN ?_ _ | refine blk_drew ?_ | refine blk_alloc ?_ _ | refine blk_far ?_ NB174_176.out _)); exact BK174.out⟩
            have n2_ : Aside0 (((((w72.setCell ⟨gb176, 0, none⟩ (.int .i64 a0_0)).setCell ⟨gb176, 1, none⟩ (.int .i64 a0_1)).setCell ⟨gb176, 2, none⟩ (.int .i64 a0_2)).setCell ⟨gb176, 3, none⟩ (.string (⟨#[]⟩ : ByteArray))).heap[gb176]? = some (.cells #[.int .i64 a0_0, .int .i64 a0_1, .int .i64 a0_2, .string (⟨#[]⟩ : ByteArray)] 25 (0, 0))) := ⟨by (with_reducible repeat (first | refine blk_drewN ?_ _ | refine blk_drew ?_ | refine blk_alloc ?_ _)); refine blk_put (cs := #[.int .i64 a0_0, .int .i64 a0_1, .int .i64 a0_2, .string (⟨#[]⟩ : ByteArray)]) ?_ 3 _ rfl; (with_reducible repeat (first | refine blk_drewN ?_ _ | refine blk_drew ?_ | refine blk_alloc ?_ _)); refine blk_put (cs := #[.int .i64 a0_0, .int .i64 a0_1, .int .i64 0, .string (⟨#[]⟩ : ByteArray)]) ?_ 2 _ rfl; (with_reducible repeat (first | refine blk_drewN ?_ _ | refine blk_drew ?_ | refine blk_alloc ?_ _)); refine blk_put (cs := #[.int .i64 a0_0, .int .i64 0, .int .i64 0, .string (⟨#[]⟩ : ByteArray)]) ?_ 1 _ rfl; (with_reducible repeat (first | refine blk_drewN ?_ _ | refine blk_drew ?_ | refine blk_alloc ?_ _)); refine blk_put (cs := #[.int .i64 0, .int .i64 0, .int .i64 0, .string (⟨#[]⟩ : ByteArray)]) ?_ 0 _ rfl; (with_reducible repeat (first | refine blk_drewN ?_ _ | refine blk_drew ?_ | refine blk_alloc ?_ _)); exact BK176.out⟩
            have n3_ : Aside0 (Below w.heap.size w ((((w72.setCell ⟨gb176, 0, none⟩ (.int .i64 a0_0)).setCell ⟨gb176, 1, none⟩ (.int .i64 a0_1)).setCell ⟨gb176, 2, none⟩ (.int .i64 a0_2)).setCell ⟨gb176, 3, none⟩ (.string (⟨#[]⟩ : ByteArray)))) := ⟨by repeat (first | (with_reducible first | exact HB.out | apply below_alloc | apply pw_below_drewN | apply below_drew1 | refine below_set ?_ GE166.out | refine below_set ?_ GE174.out | refine below_set ?_ GE176.out) | exact HB.out)⟩
            clear BK166 BK174 BK176 HB
            generalize ((((w72.setCell ⟨gb176, 0, none⟩ (.int .i64 a0_0)).setCell ⟨gb176, 1, none⟩ (.int .i64 a0_1)).setCell ⟨gb176, 2, none⟩ (.int .i64 a0_2)).setCell ⟨gb176, 3, none⟩ (.string (⟨#[]⟩ : ByteArray))) = wq at n0_ n1_ n2_ n3_ ⊢
            have BK166 := n0_
            have BK174 := n1_
            have BK176 := n2_
            have HB := n3_
            clear n0_ n1_ n2_ n3_
            go_cut [45] (fun v45 wd => ∃ (x y z : Int), Aside0 (bumpTail kj7 t173 a0_0 a0_1 a0_2 a0_3 t169 t170 t171 t172 x y z = some r) ∧ Aside0 (wd.heap[gb166]? = some (.cells #[.int .i64 a0_0, .int .i64 a0_1, .int .i64 a0_2, .string a0_3] 25 (0, 0))) ∧ Aside0 (wd.heap[gb174]? = some (.cells #[.int .i64 t169, .int .i64 t170, .int .i64 t171, .string t172] 25 (0, 0))) ∧ Aside0 (wd.heap[gb176]? = some (.cells #[.int .i64 x, .int .i64 y, .int .i64 z, .string (⟨#[]⟩ : ByteArray)] 25 (0, 0))) ∧ Aside0 (Below w.heap.size w wd))
            case first =>
              have hyb0 : wq.cell? ⟨gb166, 0, none⟩ = some (.int .i64 a0_0) := (blk_cell BK166.out 0).trans rfl
              have hyb1 : wq.cell? ⟨gb166, 1, none⟩ = some (.int .i64 a0_1) := (blk_cell BK166.out 1).trans rfl
              have hyb2 : wq.cell? ⟨gb166, 2, none⟩ = some (.int .i64 a0_2) := (blk_cell BK166.out 2).trans rfl
              have hyb3 : wq.cell? ⟨gb166, 3, none⟩ = some (.string a0_3) := (blk_cell BK166.out 3).trans rfl
              have hybf0 := blk_frozen BK166.out 0
              have hybf1 := blk_frozen BK166.out 1
              have hybf2 := blk_frozen BK166.out 2
              have hybf3 := blk_frozen BK166.out 3
              have hyc0 : wq.cell? ⟨gb176, 0, none⟩ = some (.int .i64 a0_0) := (blk_cell BK176.out 0).trans rfl
              have hyc1 : wq.cell? ⟨gb176, 1, none⟩ = some (.int .i64 a0_1) := (blk_cell BK176.out 1).trans rfl
              have hyc2 : wq.cell? ⟨gb176, 2, none⟩ = some (.int .i64 a0_2) := (blk_cell BK176.out 2).trans rfl
              have hyc3 : wq.cell? ⟨gb176, 3, none⟩ = some (.string (⟨#[]⟩ : ByteArray)) := (blk_cell BK176.out 3).trans rfl
              have hycf0 := blk_frozen BK176.out 0
              have hycf1 := blk_frozen BK176.out 1
              have hycf2 := blk_frozen BK176.out 2
              have hycf3 := blk_frozen BK176.out 3
              have hnb36 := NB166_176.out
              have hnc36 := NB176_166.out
              have H := HT.out
              clear HT
              by_cases c32 : a1 = 0
              · rw [if_pos c32] at H
                have c32b0 : (a1 == 0) = true := beq_iff_eq.mpr c32
                go_wp2
                go_meet
                case rel => exact ⟨(wrap64 (a0_0 + 1)), 0, 0, ⟨by rw [← H]; unfold bumpTail; rfl⟩, ⟨by (with_reducible repeat (first | refine blk_drewN ?_ _ | refine blk_drew ?_ | refine blk_alloc ?_ _ | refine blk_far ?_ NB166_176.out _)); exact BK166.out⟩, ⟨by (with_reducible repeat (first | refine blk_drewN ?_ _ | refine blk_drew ?_ | refine blk_alloc ?_ _ | refine blk_far ?_ NB174_176.out _)); exact BK174.out⟩, ⟨by (with_reducible repeat (first | refine blk_drewN ?_ _ | refine blk_drew ?_ | refine blk_alloc ?_ _)); refine blk_put (cs := #[.int .i64 (wrap64 (a0_0 + 1)), .int .i64 0, .int .i64 0, .string (⟨#[]⟩ : ByteArray)]) ?_ 3 _ rfl; (with_reducible repeat (first | refine blk_drewN ?_ _ | refine blk_drew ?_ | refine blk_alloc ?_ _)); refine blk_put (cs := #[.int .i64 (wrap64 (a0_0 + 1)), .int .i64 0, .int .i64 a0_2, .string (⟨#[]⟩ : ByteArray)]) ?_ 2 _ rfl; (with_reducible repeat (first | refine blk_drewN ?_ _ | refine blk_drew ?_ | refine blk_alloc ?_ _)); refine blk_put (cs := #[.int .i64 (wrap64 (a0_0 + 1)), .int .i64 a0_1, .int .i64 a0_2, .string (⟨#[]⟩ : ByteArray)]) ?_ 1 _ rfl; (with_reducible repeat (first | refine blk_drewN ?_ _ | refine blk_drew ?_ | refine blk_alloc ?_ _)); refine blk_put (cs := #[.int .i64 a0_0, .int .i64 a0_1, .int .i64 a0_2, .string (⟨#[]⟩ : ByteArray)]) ?_ 0 _ rfl; (with_reducible repeat (first | refine blk_drewN ?_ _ | refine blk_drew ?_ | refine blk_alloc ?_ _)); exact BK176.out⟩, ⟨by repeat (first | (with_reducible first | exact HB.out | apply below_alloc | apply pw_below_drewN | apply below_drew1 | refine below_set ?_ GE166.out | refine below_set ?_ GE174.out | refine below_set ?_ GE176.out) | exact HB.out)⟩⟩
              · rw [if_neg c32] at H
                have c32b0 : (a1 == 0) = false := beq_eq_false_iff_ne.mpr c32
                by_cases c94 : a1 = 1
                · rw [if_pos c94] at H
                  have c94b0 : (a1 == 1) = true := beq_iff_eq.mpr c94
                  go_wp2
                  go_meet
                  case rel => exact ⟨a0_0, (wrap64 (a0_1 + 1)), 0, ⟨by rw [← H]; unfold bumpTail; rfl⟩, ⟨by (with_reducible repeat (first | refine blk_drewN ?_ _ | refine blk_drew ?_ | refine blk_alloc ?_ _ | refine blk_far ?_ NB166_176.out _)); exact BK166.out⟩, ⟨by (with_reducible repeat (first | refine blk_drewN ?_ _ | refine blk_drew ?_ | refine blk_alloc ?_ _ | refine blk_far ?_ NB174_176.out _)); exact BK174.out⟩, ⟨by (with_reducible repeat (first | refine blk_drewN ?_ _ | refine blk_drew ?_ | refine blk_alloc ?_ _)); refine blk_put (cs := #[.int .i64 a0_0, .int .i64 (wrap64 (a0_1 + 1)), .int .i64 0, .string (⟨#[]⟩ : ByteArray)]) ?_ 3 _ rfl; (with_reducible repeat (first | refine blk_drewN ?_ _ | refine blk_drew ?_ | refine blk_alloc ?_ _)); refine blk_put (cs := #[.int .i64 a0_0, .int .i64 (wrap64 (a0_1 + 1)), .int .i64 a0_2, .string (⟨#[]⟩ : ByteArray)]) ?_ 2 _ rfl; (with_reducible repeat (first | refine blk_drewN ?_ _ | refine blk_drew ?_ | refine blk_alloc ?_ _)); refine blk_put (cs := #[.int .i64 a0_0, .int .i64 a0_1, .int .i64 a0_2, .string (⟨#[]⟩ : ByteArray)]) ?_ 1 _ rfl; (with_reducible repeat (first | refine blk_drewN ?_ _ | refine blk_drew ?_ | refine blk_alloc ?_ _)); refine blk_put (cs := #[.int .i64 a0_0, .int .i64 a0_1, .int .i64 a0_2, .string (⟨#[]⟩ : ByteArray)]) ?_ 0 _ rfl; (with_reducible repeat (first | refine blk_drewN ?_ _ | refine blk_drew ?_ | refine blk_alloc ?_ _)); exact BK176.out⟩, ⟨by repeat (first | (with_reducible first | exact HB.out | apply below_alloc | apply pw_below_drewN | apply below_drew1 | refine below_set ?_ GE166.out | refine below_set ?_ GE174.out | refine below_set ?_ GE176.out) | exact HB.out)⟩⟩
                · rw [if_neg c94] at H
                  have c94b0 : (a1 == 1) = false := beq_eq_false_iff_ne.mpr c94
                  by_cases c173 : a0_3.toList = ([] : List UInt8)
                  · rw [if_pos c173] at H
                    have c173b0 : (a0_3.toList == ([] : List UInt8)) = true := beq_iff_eq.mpr c173
                    have c173b1 : a0_3.toList.isEmpty = true := List.isEmpty_iff.mpr c173
                    go_wp2
                    go_meet
                    case rel => exact ⟨a0_0, a0_1, (wrap64 (a0_2 + 1)), ⟨by rw [← H]; unfold bumpTail; rfl⟩, ⟨by (with_reducible repeat (first | refine blk_drewN ?_ _ | refine blk_drew ?_ | refine blk_alloc ?_ _ | refine blk_far ?_ NB166_176.out _)); exact BK166.out⟩, ⟨by (with_reducible repeat (first | refine blk_drewN ?_ _ | refine blk_drew ?_ | refine blk_alloc ?_ _ | refine blk_far ?_ NB174_176.out _)); exact BK174.out⟩, ⟨by (with_reducible repeat (first | refine blk_drewN ?_ _ | refine blk_drew ?_ | refine blk_alloc ?_ _)); refine blk_put (cs := #[.int .i64 a0_0, .int .i64 a0_1, .int .i64 a0_2, .string (⟨#[]⟩ : ByteArray)]) ?_ 2 _ rfl; (with_reducible repeat (first | refine blk_drewN ?_ _ | refine blk_drew ?_ | refine blk_alloc ?_ _)); exact BK176.out⟩, ⟨by repeat (first | (with_reducible first | exact HB.out | apply below_alloc | apply pw_below_drewN | apply below_drew1 | refine below_set ?_ GE166.out | refine below_set ?_ GE174.out | refine below_set ?_ GE176.out) | exact HB.out)⟩⟩
                  · rw [if_neg c173] at H
                    have c173b0 : (a0_3.toList == ([] : List UInt8)) = false := beq_eq_false_iff_ne.mpr c173
                    have c173b1 : a0_3.toList.isEmpty = false := by rw [← Bool.not_eq_true, List.isEmpty_iff]; exact c173
                    go_wp2
                    go_meet
                    case rel => exact ⟨a0_0, a0_1, a0_2, ⟨by rw [← H]; unfold bumpTail; rfl⟩, ⟨by (with_reducible repeat (first | refine blk_drewN ?_ _ | refine blk_drew ?_ | refine blk_alloc ?_ _ | refine blk_far ?_ NB166_176.out _)); exact BK166.out⟩, ⟨by (with_reducible repeat (first | refine blk_drewN ?_ _ | refine blk_drew ?_ | refine blk_alloc ?_ _ | refine blk_far ?_ NB174_176.out _)); exact BK174.out⟩, ⟨by (with_reducible repeat (first | refine blk_drewN ?_ _ | refine blk_drew ?_ | refine blk_alloc ?_ _)); exact BK176.out⟩, ⟨by repeat (first | (with_reducible first | exact HB.out | apply below_alloc | apply pw_below_drewN | apply below_drew1 | refine below_set ?_ GE166.out | refine below_set ?_ GE174.out | refine below_set ?_ GE176.out) | exact HB.out)⟩⟩
            case rest =>
              clear HT
              obtain ⟨x, y, z, HT, BK166, BK174, BK176, HB⟩ := hcut
              try clear hya0
              try clear hyaf0
              try clear hya1
              try clear hyaf1
              try clear hya2
              try clear hyaf2
              try clear hya3
              try clear hyaf3
              have H := HT.out
              clear HT
              unfold bumpTail at H
              have hyd0 : wc.cell? ⟨gb166, 0, none⟩ = some (.int .i64 a0_0) := (blk_cell BK166.out 0).trans rfl
              have hyd1 : wc.cell? ⟨gb166, 1, none⟩ = some (.int .i64 a0_1) := (blk_cell BK166.out 1).trans rfl
              have hyd2 : wc.cell? ⟨gb166, 2, none⟩ = some (.int .i64 a0_2) := (blk_cell BK166.out 2).trans rfl
              have hyd3 : wc.cell? ⟨gb166, 3, none⟩ = some (.string a0_3) := (blk_cell BK166.out 3).trans rfl
              have hydf0 := blk_frozen BK166.out 0
              have hydf1 := blk_frozen BK166.out 1
              have hydf2 := blk_frozen BK166.out 2
              have hydf3 := blk_frozen BK166.out 3
              have hye0 : wc.cell? ⟨gb174, 0, none⟩ = some (.int .i64 t169) := (blk_cell BK174.out 0).trans rfl
              have hye1 : wc.cell? ⟨gb174, 1, none⟩ = some (.int .i64 t170) := (blk_cell BK174.out 1).trans rfl
              have hye2 : wc.cell? ⟨gb174, 2, none⟩ = some (.int .i64 t171) := (blk_cell BK174.out 2).trans rfl
              have hye3 : wc.cell? ⟨gb174, 3, none⟩ = some (.string t172) := (blk_cell BK174.out 3).trans rfl
              have hyef0 := blk_frozen BK174.out 0
              have hyef1 := blk_frozen BK174.out 1
              have hyef2 := blk_frozen BK174.out 2
              have hyef3 := blk_frozen BK174.out 3
              have hyg0 : wc.cell? ⟨gb176, 0, none⟩ = some (.int .i64 x) := (blk_cell BK176.out 0).trans rfl
              have hyg1 : wc.cell? ⟨gb176, 1, none⟩ = some (.int .i64 y) := (blk_cell BK176.out 1).trans rfl
              have hyg2 : wc.cell? ⟨gb176, 2, none⟩ = some (.int .i64 z) := (blk_cell BK176.out 2).trans rfl
              have hyg3 : wc.cell? ⟨gb176, 3, none⟩ = some (.string (⟨#[]⟩ : ByteArray)) := (blk_cell BK176.out 3).trans rfl
              have hygf0 := blk_frozen BK176.out 0
              have hygf1 := blk_frozen BK176.out 1
              have hygf2 := blk_frozen BK176.out 2
              have hygf3 := blk_frozen BK176.out 3
              have hnb36 := NB166_176.out
              have hnc36 := NB176_166.out
              have hnb37 := NB174_176.out
              have hnc37 := NB176_174.out
              by_cases g1 : x > 999999
              · rw [if_pos g1] at H
                have g1b0 : decide (999999 < x) = true := decide_eq_true g1
                by_cases eg1 : t173 = 11
                · rw [if_pos eg1] at H
                  have eg1b0 : (t173 == 11) = true := beq_iff_eq.mpr eg1
                  obtain rfl := Option.some.inj H
                  clear eg1
                  go_wp2
                  go_ret
                  exact ⟨by first | rfl | (simp [errW_none, errW_some] <;> rfl) | (simp [*, errW_none, errW_some] <;> rfl), by repeat (first | (with_reducible first | exact HB.out | apply below_alloc | apply pw_below_drewN | apply below_drew1 | refine below_set ?_ GE166.out | refine below_set ?_ GE174.out | refine below_set ?_ GE176.out) | exact HB.out)⟩
                · rw [if_neg eg1] at H
                  have eg1b0 : (t173 == 11) = false := beq_eq_false_iff_ne.mpr eg1
                  obtain rfl := Option.some.inj H
                  go_wp2
                  go_ret
                  exact ⟨by first | rfl | (simp [errW_none, errW_some] <;> rfl) | (simp [*, errW_none, errW_some] <;> rfl), by repeat (first | (with_reducible first | exact HB.out | apply below_alloc | apply pw_below_drewN | apply below_drew1 | refine below_set ?_ GE166.out | refine below_set ?_ GE174.out | refine below_set ?_ GE176.out) | exact HB.out)⟩
              · rw [if_neg g1] at H
                have g1b0 : decide (999999 < x) = false := decide_eq_false g1
                clear g1
                by_cases g2 : y > 999999
                · rw [if_pos g2] at H
                  have g2b0 : decide (999999 < y) = true := decide_eq_true g2
                  by_cases eg2 : t173 = 11
                  · rw [if_pos eg2] at H
                    have eg2b0 : (t173 == 11) = true := beq_iff_eq.mpr eg2
                    obtain rfl := Option.some.inj H
                    clear eg2
                    go_wp2
                    go_ret
                    exact ⟨by first | rfl | (simp [errW_none, errW_some] <;> rfl) | (simp [*, errW_none, errW_some] <;> rfl), by repeat (first | (with_reducible first | exact HB.out | apply below_alloc | apply pw_below_drewN | apply below_drew1 | refine below_set ?_ GE166.out | refine below_set ?_ GE174.out | refine below_set ?_ GE176.out) | exact HB.out)⟩
                  · rw [if_neg eg2] at H
                    have eg2b0 : (t173 == 11) = false := beq_eq_false_iff_ne.mpr eg2
                    obtain rfl := Option.some.inj H
                    go_wp2
                    go_ret
                    exact ⟨by first | rfl | (simp [errW_none, errW_some] <;> rfl) | (simp [*, errW_none, errW_some] <;> rfl), by repeat (first | (with_reducible first | exact HB.out | apply below_alloc | apply pw_below_drewN | apply below_drew1 | refine below_set ?_ GE166.out | refine below_set ?_ GE174.out | refine below_set ?_ GE176.out) | exact HB.out)⟩
                · rw [if_neg g2] at H
                  have g2b0 : decide (999999 < y) = false := decide_eq_false g2
                  clear g2
                  by_cases g3 : z > 999999
                  · rw [if_pos g3] at H
                    have g3b0 : decide (999999 < z) = true := decide_eq_true g3
                    by_cases eg3 : t173 = 11
                    · rw [if_pos eg3] at H
                      have eg3b0 : (t173 == 11) = true := beq_iff_eq.mpr eg3
                      obtain rfl := Option.some.inj H
                      clear eg3
                      go_wp2
                      go_ret
                      exact ⟨by first | rfl | (simp [errW_none, errW_some] <;> rfl) | (simp [*, errW_none, errW_some] <;> rfl), by repeat (first | (with_reducible first | exact HB.out | apply below_alloc | apply pw_below_drewN | apply below_drew1 | refine below_set ?_ GE166.out | refine below_set ?_ GE174.out | refine below_set ?_ GE176.out) | exact HB.out)⟩
                    · rw [if_neg eg3] at H
                      have eg3b0 : (t173 == 11) = false := beq_eq_false_iff_ne.mpr eg3
                      obtain rfl := Option.some.inj H
                      go_wp2
                      go_ret
                      exact ⟨by first | rfl | (simp [errW_none, errW_some] <;> rfl) | (simp [*, errW_none, errW_some] <;> rfl), by repeat (first | (with_reducible first | exact HB.out | apply below_alloc | apply pw_below_drewN | apply below_drew1 | refine below_set ?_ GE166.out | refine below_set ?_ GE174.out | refine below_set ?_ GE176.out) | exact HB.out)⟩
                  · rw [if_neg g3] at H
                    have g3b0 : decide (999999 < z) = false := decide_eq_false g3
                    clear g3
                    by_cases g4 : t173 = 0
                    · rw [if_pos g4] at H
                      have g4b0 : (t173 == 0) = true := beq_iff_eq.mpr g4
                      clear g4
                      by_cases g5 : (t169 == x && (t170 == y && (t171 == z && (t172.toList == ([] : List UInt8))))) = true
                      · rw [if_pos g5] at H
                        have g5b0 : (t169 = x ∧ t170 = y ∧ t171 = z ∧ t172.toList = ([] : List UInt8)) = True := eq_true (by simpa using g5)
                        replace H := Option.bind_eq_some_iff.mp H
                        obtain ⟨t177, A690, H⟩ := H
                        replace H : (some (t177 == (-1))) = some r := H
                        have A69 := Aside0.mk A690
                        clear A690
                        obtain rfl := Option.some.inj H
                        go_wp2_with (first | (go_at_call 16; (with_reducible refine (semver_Compare.calls kj7 a0_0 a0_1 a0_2 a0_3 t169 t170 t171 t172 t177 _ (by first | exact HG.out | exact Gw.drewN HG.out _ | exact Gw.below HG.out (by repeat (first | (with_reducible first | exact HB.out | apply below_alloc | apply pw_below_drewN | apply below_drew1) | exact HB.out | refine below_set ?_ (Aside0.out (by assumption))))) A69.out).mono ?_); rintro e w78 ⟨rfl, hb⟩; have n0_ := Aside0.mk (blk_below (g := gb166) (o := .cells #[.int .i64 a0_0, .int .i64 a0_1, .int .i64 a0_2, .string a0_3] 25 (0, 0)) (by (with_reducible repeat (first | refine blk_drewN ?_ _ | refine blk_drew ?_ | refine blk_alloc ?_ _)); exact BK166.out) hb); have n1_ := Aside0.mk (blk_below (g := gb174) (o := .cells #[.int .i64 t169, .int .i64 t170, .int .i64 t171, .string t172] 25 (0, 0)) (by (with_reducible repeat (first | refine blk_drewN ?_ _ | refine blk_drew ?_ | refine blk_alloc ?_ _)); exact BK174.out) hb); have n2_ := Aside0.mk (blk_below (g := gb176) (o := .cells #[.int .i64 x, .int .i64 y, .int .i64 z, .string (⟨#[]⟩ : ByteArray)] 25 (0, 0)) (by (with_reducible repeat (first | refine blk_drewN ?_ _ | refine blk_drew ?_ | refine blk_alloc ?_ _)); exact BK176.out) hb); have n3_ := Aside0.mk (below_step (by repeat (first | (with_reducible first | exact HB.out | apply below_alloc | apply pw_below_drewN | apply below_drew1 | refine below_set ?_ GE166.out | refine below_set ?_ GE174.out | refine below_set ?_ GE176.out) | exact HB.out)) hb); clear BK166; clear BK174; clear BK176; clear HB; have BK166 := n0_; have BK174 := n1_; have BK176 := n2_; have HB := n3_; clear n0_ n1_ n2_ n3_; (try clear hb); (try clear hb2); (try clear hk); (try clear hi)))
                        go_ret
                        exact ⟨by first | rfl | (simp [errW_none, errW_some] <;> rfl) | (simp [*, errW_none, errW_some] <;> rfl), by repeat (first | (with_reducible first | exact HB.out | apply below_alloc | apply pw_below_drewN | apply below_drew1 | refine below_set ?_ GE166.out | refine below_set ?_ GE174.out | refine below_set ?_ GE176.out) | exact HB.out)⟩
                      · rw [if_neg g5] at H
                        have g5b0 : (t169 = x ∧ t170 = y ∧ t171 = z ∧ t172.toList = ([] : List UInt8)) = False := eq_false (by simpa using g5)
                        clear g5
                        obtain rfl := Option.some.inj H
                        go_wp2
                        go_ret
                        exact ⟨by first | rfl | (simp [errW_none, errW_some] <;> rfl) | (simp [*, errW_none, errW_some] <;> rfl), by repeat (first | (with_reducible first | exact HB.out | apply below_alloc | apply pw_below_drewN | apply below_drew1 | refine below_set ?_ GE166.out | refine below_set ?_ GE174.out | refine below_set ?_ GE176.out) | exact HB.out)⟩
                    · rw [if_neg g4] at H
                      have g4b0 : (t173 == 0) = false := beq_eq_false_iff_ne.mpr g4
                      obtain rfl := Option.some.inj H
                      go_wp2
                      go_ret
                      exact ⟨by first | rfl | (simp [errW_none, errW_some] <;> rfl) | (simp [*, errW_none, errW_some] <;> rfl), by repeat (first | (with_reducible first | exact HB.out | apply below_alloc | apply pw_below_drewN | apply below_drew1 | refine below_set ?_ GE166.out | refine below_set ?_ GE174.out | refine below_set ?_ GE176.out) | exact HB.out)⟩
    · replace c6 := Bool.eq_false_iff.mpr c6
      subst c6
      have H1 : (some true) = some r := by rw [if_neg (show ¬ (false = true) by decide)] at H; exact H
      clear H
      have H := H1
      clear H1
      obtain rfl := Option.some.inj H
      go_enter Tryd.func10, Tryd.ntmps10
      go_wp2_with (first | ((with_reducible refine gate_dst (N := 2) rfl ?_); refine box_event ?hg (N := 2) ?hd (cs := #[.int .i64 a0_0, .int .i64 a0_1, .int .i64 a0_2, .string a0_3]) (t := 25) ?hr ?_; (case hd => rfl); (case hg => rfl); (case hr => first | (go_simp; done) | (go_simp; rfl)); intro gb166 hg w330 hbox hb; have n0_ := Aside0.mk (below_step (by repeat (first | (with_reducible first | exact HB.out | apply below_alloc | apply pw_below_drewN | apply below_drew1) | exact HB.out)) hb); have n1_ := Aside0.mk (hbox); have n2_ := Aside0.mk ((by rw [hg]; exact (below_size (by repeat (first | (with_reducible first | exact HB.out | apply below_alloc | apply pw_below_drewN | apply below_drew1) | exact HB.out))) : w.heap.size ≤ gb166)); have n3_ := Aside0.mk ((by rw [hg]; exact (below_size (by repeat (first | (with_reducible first | exact HB.out | apply below_alloc | apply pw_below_drewN | apply below_drew1) | exact HB.out))) : w.heap.size ≤ gb166)); clear HB; have HB := n0_; have BK166 := n1_; have GW166 := n2_; have GE166 := n3_; clear n0_ n1_ n2_ n3_; clear hb hbox hg) | ((with_reducible refine gate_callee (f := 11) rfl ?_); refine goesL_ (some 8) rfl rfl Tryd.func11 (by kernel_rfl) rfl #[] rfl (by (try simp only [List.map_toArray, List.map_cons, List.map_nil]); first | done | rfl | (simp only [List.length_drop, List.length_take]; rfl)) ?_; (with_reducible refine (slipwaylaw01_anchor.calls k  true _ (by first | exact HG.out | exact Gw.drewN HG.out _ | exact Gw.below HG.out (by repeat (first | (with_reducible first | exact HB.out | apply below_alloc | apply pw_below_drewN | apply below_drew1) | exact HB.out | refine below_set ?_ (Aside0.out (by assumption))))) A3.out).mono ?_); rintro e w331 ⟨rfl, hb⟩; refine ⟨_, rfl, ?_⟩; have n0_ := Aside0.mk (blk_below (g := gb166) (o := .cells #[.int .i64 a0_0, .int .i64 a0_1, .int .i64 a0_2, .string a0_3] 25 (0, 0)) (by (with_reducible repeat (first | refine blk_drewN ?_ _ | refine blk_drew ?_ | refine blk_alloc ?_ _)); exact BK166.out) hb); have n1_ := Aside0.mk (below_step (by repeat (first | (with_reducible first | exact HB.out | apply below_alloc | apply pw_below_drewN | apply below_drew1 | refine below_set ?_ GE166.out) | exact HB.out)) hb); clear BK166; clear HB; have BK166 := n0_; have HB := n1_; clear n0_ n1_; (try clear hb); (try clear hb2); (try clear hk); (try clear hi); have hcz332_0 : w331.cell? ⟨gb166, 0, none⟩ = some (.int .i64 a0_0) := (blk_cell BK166.out 0).trans rfl; have hcz332_1 : w331.cell? ⟨gb166, 1, none⟩ = some (.int .i64 a0_1) := (blk_cell BK166.out 1).trans rfl; have hcz332_2 : w331.cell? ⟨gb166, 2, none⟩ = some (.int .i64 a0_2) := (blk_cell BK166.out 2).trans rfl; have hcz332_3 : w331.cell? ⟨gb166, 3, none⟩ = some (.string a0_3) := (blk_cell BK166.out 3).trans rfl; have hfz332_0 := blk_frozen BK166.out 0; have hfz332_1 := blk_frozen BK166.out 1; have hfz332_2 := blk_frozen BK166.out 2; have hfz332_3 := blk_frozen BK166.out 3) | ((with_reducible refine gate_callee (f := 12) rfl ?_); refine goesL_ (some 12) rfl rfl Tryd.func12 (by kernel_rfl) rfl #[.string a0_3] rfl (by (try simp only [List.map_toArray, List.map_cons, List.map_nil]); first | done | rfl | (simp only [List.length_drop, List.length_take]; rfl)) ?_; (with_reducible refine (slipwaylaw01_short.calls a0_3 false _ A5.out).mono ?_); rintro e w' ⟨rfl, ⟨nd, rfl⟩⟩; refine ⟨_, rfl, ?_⟩))
      go_ret
      exact ⟨by first | rfl | (simp [errW_none, errW_some] <;> rfl) | (simp [*, errW_none, errW_some] <;> rfl), by repeat (first | (with_reducible first | exact HB.out | apply below_alloc | apply pw_below_drewN | apply below_drew1 | refine below_set ?_ GE166.out) | exact HB.out)⟩
  · replace c4 := Bool.eq_false_iff.mpr c4
    subst c4
    have H1 : (some false) = some r := by rw [if_neg (show ¬ (false = true) by decide)] at H; exact H
    clear H
    have H := H1
    clear H1
    obtain rfl := Option.some.inj H
    go_enter Tryd.func10, Tryd.ntmps10
    go_wp2_with (first | ((with_reducible refine gate_dst (N := 2) rfl ?_); refine box_event ?hg (N := 2) ?hd (cs := #[.int .i64 a0_0, .int .i64 a0_1, .int .i64 a0_2, .string a0_3]) (t := 25) ?hr ?_; (case hd => rfl); (case hg => rfl); (case hr => first | (go_simp; done) | (go_simp; rfl)); intro gb166 hg w333 hbox hb; have n0_ := Aside0.mk (below_step (by repeat (first | (with_reducible first | exact HB.out | apply below_alloc | apply pw_below_drewN | apply below_drew1) | exact HB.out)) hb); have n1_ := Aside0.mk (hbox); have n2_ := Aside0.mk ((by rw [hg]; exact (below_size (by repeat (first | (with_reducible first | exact HB.out | apply below_alloc | apply pw_below_drewN | apply below_drew1) | exact HB.out))) : w.heap.size ≤ gb166)); have n3_ := Aside0.mk ((by rw [hg]; exact (below_size (by repeat (first | (with_reducible first | exact HB.out | apply below_alloc | apply pw_below_drewN | apply below_drew1) | exact HB.out))) : w.heap.size ≤ gb166)); clear HB; have HB := n0_; have BK166 := n1_; have GW166 := n2_; have GE166 := n3_; clear n0_ n1_ n2_ n3_; clear hb hbox hg) | ((with_reducible refine gate_callee (f := 11) rfl ?_); refine goesL_ (some 8) rfl rfl Tryd.func11 (by kernel_rfl) rfl #[] rfl (by (try simp only [List.map_toArray, List.map_cons, List.map_nil]); first | done | rfl | (simp only [List.length_drop, List.length_take]; rfl)) ?_; (with_reducible refine (slipwaylaw01_anchor.calls k  false _ (by first | exact HG.out | exact Gw.drewN HG.out _ | exact Gw.below HG.out (by repeat (first | (with_reducible first | exact HB.out | apply below_alloc | apply pw_below_drewN | apply below_drew1) | exact HB.out | refine below_set ?_ (Aside0.out (by assumption))))) A3.out).mono ?_); rintro e w334 ⟨rfl, hb⟩; refine ⟨_, rfl, ?_⟩; have n0_ := Aside0.mk (blk_below (g := gb166) (o := .cells #[.int .i64 a0_0, .int .i64 a0_1, .int .i64 a0_2, .string a0_3] 25 (0, 0)) (by (with_reducible repeat (first | refine blk_drewN ?_ _ | refine blk_drew ?_ | refine blk_alloc ?_ _)); exact BK166.out) hb); have n1_ := Aside0.mk (below_step (by repeat (first | (with_reducible first | exact HB.out | apply below_alloc | apply pw_below_drewN | apply below_drew1 | refine below_set ?_ GE166.out) | exact HB.out)) hb); clear BK166; clear HB; have BK166 := n0_; have HB := n1_; clear n0_ n1_; (try clear hb); (try clear hb2); (try clear hk); (try clear hi)))
    go_ret
    exact ⟨by first | rfl | (simp [errW_none, errW_some] <;> rfl) | (simp [*, errW_none, errW_some] <;> rfl), by repeat (first | (with_reducible first | exact HB.out | apply below_alloc | apply pw_below_drewN | apply below_drew1 | refine below_set ?_ GE166.out) | exact HB.out)⟩

end Go.Proofs.YtkilaemngejplaaDoor.PSem
