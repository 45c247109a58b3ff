/- The theorem: the statement holds; without conditions. -/
import Derived.Test.YtikjlooifdgbaaaGreatDoorP11355698
import Derived.Test.YtikjlooifdgbaaaGreatDoorP49b084f4
import Derived.Test.YtikjlooifdgbaaaGreatDoorPd468651e
import Derived.Test.YtikjlooifdgbaaaGreatDoorPee21ccff
import Derived.Test.YtikjlooifdgbaaaGreatDoorP621e04f6
import Derived.Test.YtikjlooifdgbaaaGreatDoorP847ea9e9
import Derived.Test.YtikjlooifdgbaaaGreatDoorCards
import Derived.Test.YtikjlooifdgbaaaGreatDoorTie
import Derived.SevenTiedAt

set_option linter.unusedSimpArgs false
set_option linter.unusedVariables false
namespace Go.Proofs.YtikjlooifdgbaaaGreatDoor.RPlanFleets
open Go Go.Lg Go.Lg.Sem Go.Lg.Tryz Go.ChangeShapes Go.WideShapes Go.ChangeAt Go.RowKit Go.Joins

set_option maxRecDepth 100000 in
set_option maxHeartbeats 1600000 in
theorem lifted (os : Os) (started : os.Started) (H : Type) (enc : TypeId × Value → H) :
    ReturnsInHanded {} Tryz.checked os 10 .any (fun w args => (Rows.planFleetsSpec.pre enc Tryz.prog Tryz.f10 Rows.planFleetsRow.domain false w args ∧ laidMetH Tryz.prog theLaid w) ∧ sizedMet enc Tryz.prog Tryz.f10 (OpenSpec.ofChange Rows.planFleetsSpec) false w args)
      (Rows.planFleetsSpec.post enc Tryz.prog Tryz.f10 false true false false) := by
  refine returns_both (C := Tryz.checked) (X := fun w _ => laidMetH Tryz.prog theLaid w) (fun _ _ _ hh h => h.of_heap hh) own started (by kernel_rfl) Tryz.func10
    (ChangeSpec.witness_shaped (enc := enc) (C := Tryz.checked) (os := os) (X := fun w _ => laidMetH Tryz.prog theLaid w) false (laidWorld os) #[.agg #[.slice none 0 0], .slice none 0 0, .slice none 0 0, .int .u64 0, .int .i64 0] 8 rfl (laidWorld_shaped os _) (by kernel_rfl) (by kernel_rfl) (by kernel_rfl) (laidWorld_met os _)) ?_
  intro W base args ds gs before hval0 hW hsz0 hL hsh
  have hG := gw_of hsh hL
  have hval : ∀ (j : Nat) t v, Tryz.f10.params[j]? = some t → args[j]? = some v → Value.okWide Tryz.prog W .any base t v := hval0
  have hW' := hW
  obtain ⟨p, q, hA0, hV, rfl, hfz, hnd⟩ := hW
  have hA : DataW.TrodAll enc Tryz.prog W 0 (fun _ => true) true Tryz.f10.params.toList args.toList ds p := hA0
  rw [Tryz.params10] at hA hval
  obtain ⟨v0, vs0, d0, ds0, p0, q0, hargs0, rfl, rfl, h0, r0⟩ := trodAll_cons hA
  obtain ⟨v1, vs1, d1, ds1, p1, q1, hargs1, rfl, rfl, h1, r1⟩ := trodAll_cons r0
  obtain ⟨v2, vs2, d2, ds2, p2, q2, hargs2, rfl, rfl, h2, r2⟩ := trodAll_cons r1
  obtain ⟨v3, vs3, d3, ds3, p3, q3, hargs3, rfl, rfl, h3, r3⟩ := trodAll_cons r2
  obtain ⟨v4, vs4, d4, ds4, p4, q4, hargs4, rfl, rfl, h4, r4⟩ := trodAll_cons r3
  obtain ⟨rfl, rfl, rfl⟩ := trodAll_nil r4
  obtain rfl : args = #[v0, v1, v2, v3, v4] := by cases args; simp_all
  obtain ⟨rfl, rfl⟩ := trodVars_none hV
  obtain ⟨cs0, e0, _⟩ := okWide_struct Tryz.underlying24 (hval 0 _ v0 rfl rfl)
  obtain ⟨a0, ha0⟩ := arg_ag opens_cat e0 h0
  obtain ⟨a1, ha1⟩ := arg_one opens_ints (by obtain ⟨_, _, _, e⟩ := okWide_slice Tryz.underlying25 (hval 1 _ v1 rfl rfl); rw [e]; rfl) h1
  obtain ⟨a2, ha2⟩ := arg_one opens_ints (by obtain ⟨_, _, _, e⟩ := okWide_slice Tryz.underlying25 (hval 2 _ v2 rfl rfl); rw [e]; rfl) h2
  obtain ⟨z3, ea3, _, _, wa3⟩ := open_int Tryz.underlying48 (hval 3 _ v3 rfl rfl) h3
  obtain ⟨a3, ez3⟩ := u64_ex wa3
  have ha3 : Rep W (Mall W) (u64T a3) v3 := by rw [ea3, ez3]; exact .sc _ rfl
  obtain ⟨a4, ea4, _, _, wa4⟩ := open_int Tryz.underlying3 (hval 4 _ v4 rfl rfl) h4
  have ha4 : Rep W (Mall W) (.sc (.int .i64 a4)) v4 := by rw [ea4]; exact .sc _ rfl
  clear hA0 hval0 hsz0
  refine (Fn.row (ts := [ctlT a0, .ls (a1.map intT), .ls (a2.map intT), u64T a3, .sc (.int .i64 a4)]) (v := .bool true) (PlanFleets_ok a0 a1 a2 a3 a4) rfl rfl (fun i t u ht hu => ?_) hG).mono fun e W' ⟨he, bel⟩ => ?_
  · match i with
    | 0 => simp at ht hu; subst ht; subst hu; exact ha0
    | 1 => simp at ht hu; subst ht; subst hu; exact ha1
    | 2 => simp at ht hu; subst ht; subst hu; exact ha2
    | 3 => simp at ht hu; subst ht; subst hu; exact ha3
    | 4 => simp at ht hu; subst ht; subst hu; exact ha4
    | i + 5 => simp at ht
  · subst he
    exact ⟨_, rfl, _, _, _, [], _, [], hW', trodAll_mk1 (shut_bool Tryz.underlying4 _), trodAll_cons_mk (stays (by kernel_rfl) (of_decide_eq_true (by kernel_rfl)) h0 bel (fun x hx => hW'.lt x (by simp [hx]))) (trodAll_cons_mk (stays (by kernel_rfl) (of_decide_eq_true (by kernel_rfl)) h1 bel (fun x hx => hW'.lt x (by simp [hx]))) (trodAll_cons_mk (stays (by kernel_rfl) (of_decide_eq_true (by kernel_rfl)) h2 bel (fun x hx => hW'.lt x (by simp [hx]))) (trodAll_cons_mk (stays (by kernel_rfl) (of_decide_eq_true (by kernel_rfl)) h3 bel (fun x hx => hW'.lt x (by simp [hx]))) (trodAll_cons_mk (stays (by kernel_rfl) (of_decide_eq_true (by kernel_rfl)) h4 bel (fun x hx => hW'.lt x (by simp [hx]))) trodAll_mk0)))), rfl, bel.frame _, fun h => by cases h⟩

theorem over : Rows.planFleetsRow.holds Tryz.pinned (OpenSpec.ofChange Rows.planFleetsSpec) :=
  OpenClaim.holds_of_wide 10 Tryz.f10 rfl rfl rfl rfl rfl rfl rfl ⟨rfl, rfl, rfl, rfl, rfl⟩ rfl rfl rfl rfl rfl (by kernel_rfl) Tryz.func10 (by kernel_rfl)
    (of_decide_eq_true (by kernel_rfl)) (by unfold Func.isWrapper; first | (rw [if_pos (by decide +kernel)]; kernel_rfl) | (rw [if_neg (by decide +kernel)]; exact ⟨rfl, rfl⟩))
    (fun os started H enc _ => lifted os started H enc)
end Go.Proofs.YtikjlooifdgbaaaGreatDoor.RPlanFleets
namespace Go.Proofs.YtikjlooifdgbaaaGreatDoor
open Go
theorem planFleets_holds : Rows.PlanFleetsCardSaid :=
  Claim7.holds_tied_plain_at .later [] [.data, .data, .data, .data, .sentinel, .sentinel, .pinned] true (true, Rows.planFleetsCard.stood.harness.2) true
    RPlanFleets.over (fun _ h => by cases h) (by kernel_rfl) (fun _ h => by cases h) planFleets_row_tie rfl ⟨rfl, rfl⟩ (by kernel_rfl) rfl
    (fun f fn hf hfn => by
      obtain rfl : f = 10 := Option.some.inj ((show Tryz.prog.funcNamed Rows.planFleetsRow.func = some 10 by kernel_rfl).symm.trans hf) |>.symm
      obtain rfl : fn = Tryz.f10 := (Option.some.inj (Tryz.func10.symm.trans hfn)).symm
      exact ⟨by kernel_rfl, fun j t ht => by
        rw [Tryz.params10] at ht
        have ht2 : t = 24 ∨ t = 25 ∨ t = 48 ∨ t = 3 := by
          rcases j with _ | j
          · (simp at ht); subst ht; simp
          rcases j with _ | j
          · (simp at ht); subst ht; simp
          rcases j with _ | j
          · (simp at ht); subst ht; simp
          rcases j with _ | j
          · (simp at ht); subst ht; simp
          rcases j with _ | j
          · (simp at ht); subst ht; simp
          · simp at ht
        rcases ht2 with rfl | rfl | rfl | rfl
        · exact (show Tryz.prog.wantsStandIn 24 = false by kernel_rfl)
        · exact (show Tryz.prog.wantsStandIn 25 = false by kernel_rfl)
        · exact (show Tryz.prog.wantsStandIn 48 = false by kernel_rfl)
        · exact (show Tryz.prog.wantsStandIn 3 = false by kernel_rfl)⟩)
    (by kernel_rfl)
#print axioms planFleets_holds
end Go.Proofs.YtikjlooifdgbaaaGreatDoor
