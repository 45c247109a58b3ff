/- The theorem: the statement holds; without conditions. -/
import Derived.Test.YtikjlooifdgbaaaGreatDoorP11355698
import Derived.Test.YtikjlooifdgbaaaGreatDoorP49b084f4
import Derived.Test.YtikjlooifdgbaaaGreatDoorP5fca0e50
import Derived.Test.YtikjlooifdgbaaaGreatDoorP3782a6b2
import Derived.Test.YtikjlooifdgbaaaGreatDoorP1e7b3749
import Derived.Test.YtikjlooifdgbaaaGreatDoorP14ddf19b
import Derived.Test.YtikjlooifdgbaaaGreatDoorCards
import Derived.Test.YtikjlooifdgbaaaGreatDoorTie
import Derived.SevenTiedAt

set_option linter.unusedSimpArgs false
set_option linter.unusedVariables false
namespace Go.Proofs.YtikjlooifdgbaaaGreatDoor.RPlanChecks
open Go Go.Lg Go.Lg.Sem Go.Lg.Tryz Go.ChangeShapes Go.WideShapes Go.ChangeAt Go.RowKit Go.Joins

set_option maxRecDepth 100000 in
set_option maxHeartbeats 1600000 in
theorem lifted (os : Os) (started : os.Started) (H : Type) (enc : TypeId × Value → H) :
    ReturnsInHanded {} Tryz.checked os 5 .any (fun w args => (Rows.planChecksSpec.pre enc Tryz.prog Tryz.f5 Rows.planChecksRow.domain false w args ∧ laidMetH Tryz.prog theLaid w) ∧ sizedMet enc Tryz.prog Tryz.f5 (OpenSpec.ofChange Rows.planChecksSpec) false w args)
      (Rows.planChecksSpec.post enc Tryz.prog Tryz.f5 false true false false) := by
  refine returns_both (C := Tryz.checked) (X := fun w _ => laidMetH Tryz.prog theLaid w) (fun _ _ _ hh h => h.of_heap hh) own started (by kernel_rfl) Tryz.func5
    (ChangeSpec.witness_shaped (enc := enc) (C := Tryz.checked) (os := os) (X := fun w _ => laidMetH Tryz.prog theLaid w) false (laidWorld os) #[.agg #[.slice none 0 0], .agg #[.slice none 0 0, .slice none 0 0, .slice none 0 0, .slice none 0 0]] 8 rfl (laidWorld_shaped os _) (by kernel_rfl) (by kernel_rfl) (by kernel_rfl) (laidWorld_met os _)) ?_
  intro W base args ds gs before hval0 hW hsz0 hL hsh
  have hG := gw_of hsh hL
  have hval : ∀ (j : Nat) t v, Tryz.f5.params[j]? = some t → args[j]? = some v → Value.okWide Tryz.prog W .any base t v := hval0
  have hW' := hW
  obtain ⟨p, q, hA0, hV, rfl, hfz, hnd⟩ := hW
  have hA : DataW.TrodAll enc Tryz.prog W 0 (fun _ => true) true Tryz.f5.params.toList args.toList ds p := hA0
  rw [Tryz.params5] at hA hval
  obtain ⟨v0, vs0, d0, ds0, p0, q0, hargs0, rfl, rfl, h0, r0⟩ := trodAll_cons hA
  obtain ⟨v1, vs1, d1, ds1, p1, q1, hargs1, rfl, rfl, h1, r1⟩ := trodAll_cons r0
  obtain ⟨rfl, rfl, rfl⟩ := trodAll_nil r1
  obtain rfl : args = #[v0, v1] := by cases args; simp_all
  obtain ⟨rfl, rfl⟩ := trodVars_none hV
  obtain ⟨cs0, e0, _⟩ := okWide_struct Tryz.underlying24 (hval 0 _ v0 rfl rfl)
  obtain ⟨a0, ha0⟩ := arg_ag opens_cat e0 h0
  obtain ⟨cs1, e1, _⟩ := okWide_struct Tryz.underlying35 (hval 1 _ v1 rfl rfl)
  obtain ⟨a1, ha1⟩ := arg_ag opens_plan e1 h1
  have hb1 : a1.2.2.1.length * 16 ≤ 140737488355328 := by
    rw [e1] at h1 ha1
    refine plan_bound h1 (fun w hw => ?_) ha1
    have hm := mem_weightsEach (P := Tryz.prog) (ts := Tryz.f5.params.toList ++ (Rows.planChecksSpec).plain.varTypes Tryz.prog) (ds := [d0, d1] ++ []) (i := 1) (by kernel_rfl) rfl hw
    exact of_decide_eq_true (List.all_eq_true.1 hsz0 w hm)
  clear hA0 hval0 hsz0
  refine (Fn.row (ts := [ctlT a0, plP a1]) (v := .bool true) (PlanChecks_ok a0 a1.1 a1.2.1 a1.2.2.1 a1.2.2.2 hb1) rfl rfl (fun i t u ht hu => ?_) hG).mono fun e W' ⟨he, bel⟩ => ?_
  · match i with
    | 0 => simp at ht hu; subst ht; subst hu; exact ha0
    | 1 => simp at ht hu; subst ht; subst hu; exact ha1
    | i + 2 => simp at ht
  · subst he
    exact ⟨_, rfl, _, _, _, [], _, [], hW', trodAll_mk1 (shut_bool Tryz.underlying4 _), trodAll_cons_mk (stays (by kernel_rfl) (of_decide_eq_true (by kernel_rfl)) h0 bel (fun x hx => hW'.lt x (by simp [hx]))) (trodAll_cons_mk (stays (by kernel_rfl) (of_decide_eq_true (by kernel_rfl)) h1 bel (fun x hx => hW'.lt x (by simp [hx]))) trodAll_mk0), rfl, bel.frame _, fun h => by cases h⟩

theorem over : Rows.planChecksRow.holds Tryz.pinned (OpenSpec.ofChange Rows.planChecksSpec) :=
  OpenClaim.holds_of_wide 5 Tryz.f5 rfl rfl rfl rfl rfl rfl rfl ⟨rfl, rfl, rfl, rfl, rfl⟩ rfl rfl rfl rfl rfl (by kernel_rfl) Tryz.func5 (by kernel_rfl)
    (of_decide_eq_true (by kernel_rfl)) (by unfold Func.isWrapper; first | (rw [if_pos (by decide +kernel)]; kernel_rfl) | (rw [if_neg (by decide +kernel)]; exact ⟨rfl, rfl⟩))
    (fun os started H enc _ => lifted os started H enc)
end Go.Proofs.YtikjlooifdgbaaaGreatDoor.RPlanChecks
namespace Go.Proofs.YtikjlooifdgbaaaGreatDoor
open Go
theorem planChecks_holds : Rows.PlanChecksCardSaid :=
  Claim7.holds_tied_plain_at .later [] [.data, .data, .data, .data, .sentinel, .sentinel, .pinned] true (true, Rows.planChecksCard.stood.harness.2) true
    RPlanChecks.over (fun _ h => by cases h) (by kernel_rfl) (fun _ h => by cases h) planChecks_row_tie rfl ⟨rfl, rfl⟩ (by kernel_rfl) rfl
    (fun f fn hf hfn => by
      obtain rfl : f = 5 := Option.some.inj ((show Tryz.prog.funcNamed Rows.planChecksRow.func = some 5 by kernel_rfl).symm.trans hf) |>.symm
      obtain rfl : fn = Tryz.f5 := (Option.some.inj (Tryz.func5.symm.trans hfn)).symm
      exact ⟨by kernel_rfl, fun j t ht => by
        rw [Tryz.params5] at ht
        have ht2 : t = 24 ∨ t = 35 := by
          rcases j with _ | j
          · (simp at ht); subst ht; simp
          rcases j with _ | j
          · (simp at ht); subst ht; simp
          · simp at ht
        rcases ht2 with rfl | rfl
        · exact (show Tryz.prog.wantsStandIn 24 = false by kernel_rfl)
        · exact (show Tryz.prog.wantsStandIn 35 = false by kernel_rfl)⟩)
    (by kernel_rfl)
#print axioms planChecks_holds
end Go.Proofs.YtikjlooifdgbaaaGreatDoor
