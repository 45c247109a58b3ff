/- The theorem: the statement holds; without conditions. -/
import Derived.Test.YtckeeefeiljamaaGreatDoorP91203479
import Derived.Test.YtckeeefeiljamaaGreatDoorP89853c57
import Derived.Test.YtckeeefeiljamaaGreatDoorP3051009e
import Derived.Test.YtckeeefeiljamaaGreatDoorP4aafe27b
import Derived.Test.YtckeeefeiljamaaGreatDoorCards
import Derived.Test.YtckeeefeiljamaaGreatDoorTie
import Derived.SevenTiedAt

set_option linter.unusedSimpArgs false
set_option linter.unusedVariables false
namespace Go.Proofs.YtckeeefeiljamaaGreatDoor.RRangesLists
open Go Go.Lg Go.Lg.Sem Go.Lg.Tryz Go.ChangeShapes Go.WideShapes Go.ChangeAt Go.RowKit Go.Joins

set_option maxRecDepth 100000 in
set_option maxHeartbeats 1600000 in
theorem lifted (os : Os) (started : os.Started) (H : Type) (enc : TypeId × Value → H) :
    ReturnsInHanded {} Tryz.checked os 6 .any (fun w args => (Rows.rangesListsSpec.pre enc Tryz.prog Tryz.f6 Rows.rangesListsRow.domain false w args ∧ laidMetH Tryz.prog theLaid w) ∧ sizedMet enc Tryz.prog Tryz.f6 (OpenSpec.ofChange Rows.rangesListsSpec) false w args)
      (Rows.rangesListsSpec.post enc Tryz.prog Tryz.f6 false true false false) := by
  refine returns_both (C := Tryz.checked) (X := fun w _ => laidMetH Tryz.prog theLaid w) (fun _ _ _ hh h => h.of_heap hh) own started (by kernel_rfl) Tryz.func6
    (ChangeSpec.witness_shaped (enc := enc) (C := Tryz.checked) (os := os) (X := fun w _ => laidMetH Tryz.prog theLaid w) false (laidWorld os) #[.agg #[.slice none 0 0], .int .i64 0, .agg #[.int .i64 0, .int .i64 0, .int .i64 0, .string ByteArray.empty]] 8 rfl (laidWorld_shaped os _) (by kernel_rfl) (by kernel_rfl) (by kernel_rfl) (laidWorld_met os _)) ?_
  intro W base args ds gs before hval0 hW hsz0 hL hsh
  have hG := gw_of hsh hL
  have hval : ∀ (j : Nat) t v, Tryz.f6.params[j]? = some t → args[j]? = some v → Value.okWide Tryz.prog W .any base t v := hval0
  have hW' := hW
  obtain ⟨p, q, hA0, hV, rfl, hfz, hnd⟩ := hW
  have hA : DataW.TrodAll enc Tryz.prog W 0 (fun _ => true) true Tryz.f6.params.toList args.toList ds p := hA0
  rw [Tryz.params6] at hA hval
  obtain ⟨v0, vs0, d0, ds0, p0, q0, hargs0, rfl, rfl, h0, r0⟩ := trodAll_cons hA
  obtain ⟨v1, vs1, d1, ds1, p1, q1, hargs1, rfl, rfl, h1, r1⟩ := trodAll_cons r0
  obtain ⟨v2, vs2, d2, ds2, p2, q2, hargs2, rfl, rfl, h2, r2⟩ := trodAll_cons r1
  obtain ⟨rfl, rfl, rfl⟩ := trodAll_nil r2
  obtain rfl : args = #[v0, v1, v2] := by cases args; simp_all
  obtain ⟨rfl, rfl⟩ := trodVars_none hV
  obtain ⟨cs0, e0, _⟩ := okWide_struct Tryz.underlying25 (hval 0 _ v0 rfl rfl)
  obtain ⟨a0, ha0⟩ := arg_ag opens_rng e0 h0
  obtain ⟨a1, ea1, _, _, wa1⟩ := open_int Tryz.underlying3 (hval 1 _ v1 rfl rfl) h1
  have ha1 : Rep W (Mall W) (.sc (.int .i64 a1)) v1 := by rw [ea1]; exact .sc _ rfl
  obtain ⟨cs2, e2, _⟩ := okWide_struct Tryz.underlying38 (hval 2 _ v2 rfl rfl)
  obtain ⟨a2, ha2⟩ := arg_ag opens_ver e2 h2
  clear hA0 hval0 hsz0
  refine (Fn.row (ts := [rngT a0, .sc (.int .i64 a1), Ver.t a2]) (v := .bool true) (RangesLists_ok a0 a1 a2) rfl rfl (fun i t u ht hu => ?_) hG).mono fun e W' ⟨he, bel⟩ => ?_
  · match i with
    | 0 => simp at ht hu; subst ht; subst hu; exact ha0
    | 1 => simp at ht hu; subst ht; subst hu; exact ha1
    | 2 => simp at ht hu; subst ht; subst hu; exact ha2
    | i + 3 => simp at ht
  · subst he
    exact ⟨_, rfl, _, _, _, [], _, [], hW', trodAll_mk1 (shut_bool Tryz.underlying4 _), trodAll_cons_mk (stays (by kernel_rfl) (of_decide_eq_true (by kernel_rfl)) h0 bel (fun x hx => hW'.lt x (by simp [hx]))) (trodAll_cons_mk (stays (by kernel_rfl) (of_decide_eq_true (by kernel_rfl)) h1 bel (fun x hx => hW'.lt x (by simp [hx]))) (trodAll_cons_mk (stays (by kernel_rfl) (of_decide_eq_true (by kernel_rfl)) h2 bel (fun x hx => hW'.lt x (by simp [hx]))) trodAll_mk0)), rfl, bel.frame _, fun h => by cases h⟩

theorem over : Rows.rangesListsRow.holds Tryz.pinned (OpenSpec.ofChange Rows.rangesListsSpec) :=
  OpenClaim.holds_of_wide 6 Tryz.f6 rfl rfl rfl rfl rfl rfl rfl ⟨rfl, rfl, rfl, rfl, rfl⟩ rfl rfl rfl rfl rfl (by kernel_rfl) Tryz.func6 (by kernel_rfl)
    (of_decide_eq_true (by kernel_rfl)) (by unfold Func.isWrapper; first | (rw [if_pos (by decide +kernel)]; kernel_rfl) | (rw [if_neg (by decide +kernel)]; exact ⟨rfl, rfl⟩))
    (fun os started H enc _ => lifted os started H enc)
end Go.Proofs.YtckeeefeiljamaaGreatDoor.RRangesLists
namespace Go.Proofs.YtckeeefeiljamaaGreatDoor
open Go
theorem rangesLists_holds : Rows.RangesListsCardSaid :=
  Claim7.holds_tied_plain_at .later [] [.data, .data, .data, .data, .sentinel, .sentinel, .pinned] true (true, Rows.rangesListsCard.stood.harness.2) true
    RRangesLists.over (fun _ h => by cases h) (by kernel_rfl) (fun _ h => by cases h) rangesLists_row_tie rfl ⟨rfl, rfl⟩ (by kernel_rfl) rfl
    (fun f fn hf hfn => by
      obtain rfl : f = 6 := Option.some.inj ((show Tryz.prog.funcNamed Rows.rangesListsRow.func = some 6 by kernel_rfl).symm.trans hf) |>.symm
      obtain rfl : fn = Tryz.f6 := (Option.some.inj (Tryz.func6.symm.trans hfn)).symm
      exact ⟨by kernel_rfl, fun j t ht => by
        rw [Tryz.params6] at ht
        have ht2 : t = 25 ∨ t = 3 ∨ t = 38 := by
          rcases j with _ | j
          · (simp at ht); subst ht; simp
          rcases j with _ | j
          · (simp at ht); subst ht; simp
          rcases j with _ | j
          · (simp at ht); subst ht; simp
          · simp at ht
        rcases ht2 with rfl | rfl | rfl
        · exact (show Tryz.prog.wantsStandIn 25 = false by kernel_rfl)
        · exact (show Tryz.prog.wantsStandIn 3 = false by kernel_rfl)
        · exact (show Tryz.prog.wantsStandIn 38 = false by kernel_rfl)⟩)
    (by kernel_rfl)
#print axioms rangesLists_holds
end Go.Proofs.YtckeeefeiljamaaGreatDoor
