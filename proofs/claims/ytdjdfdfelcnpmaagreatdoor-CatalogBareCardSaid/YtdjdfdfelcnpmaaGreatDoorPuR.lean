/- The theorem: the statement holds; without conditions. -/
import Derived.Test.YtdjdfdfelcnpmaaGreatDoorP91203479
import Derived.Test.YtdjdfdfelcnpmaaGreatDoorPe8c6d24c
import Derived.Test.YtdjdfdfelcnpmaaGreatDoorP99dee1b1
import Derived.Test.YtdjdfdfelcnpmaaGreatDoorPa24660a1
import Derived.Test.YtdjdfdfelcnpmaaGreatDoorPa35f6e9a
import Derived.Test.YtdjdfdfelcnpmaaGreatDoorP167540d2
import Derived.Test.YtdjdfdfelcnpmaaGreatDoorCards
import Derived.Test.YtdjdfdfelcnpmaaGreatDoorTie
import Derived.SevenTiedAt

set_option linter.unusedSimpArgs false
set_option linter.unusedVariables false
namespace Go.Proofs.YtdjdfdfelcnpmaaGreatDoor.RCatalogBare
open Go Go.Lg Go.Lg.Sem Go.Lg.Tryz Go.ChangeShapes Go.WideShapes Go.ChangeAt Go.RowKit Go.Joins

set_option maxRecDepth 100000 in
set_option maxHeartbeats 1600000 in
theorem lifted (os : Os) (started : os.Started) (H : Type) (enc : TypeId × Value → H) :
    ReturnsInHanded {} Tryz.checked os 9 .any (fun w args => (Rows.catalogBareSpec.pre enc Tryz.prog Tryz.f9 Rows.catalogBareRow.domain false w args ∧ laidMetH Tryz.prog theLaid w) ∧ sizedMet enc Tryz.prog Tryz.f9 (OpenSpec.ofChange Rows.catalogBareSpec) false w args)
      (Rows.catalogBareSpec.post enc Tryz.prog Tryz.f9 false true false false) := by
  refine returns_both (C := Tryz.checked) (X := fun w _ => laidMetH Tryz.prog theLaid w) (fun _ _ _ hh h => h.of_heap hh) own started (by kernel_rfl) Tryz.func9
    (ChangeSpec.witness_shaped (enc := enc) (C := Tryz.checked) (os := os) (X := fun w _ => laidMetH Tryz.prog theLaid w) false (laidWorld os) #[.agg #[.slice none 0 0], .slice none 0 0, .int .i64 0, .int .i64 0] 8 rfl (laidWorld_shaped os _) (by kernel_rfl) (by kernel_rfl) (by kernel_rfl) (laidWorld_met os _)) ?_
  intro W base args ds gs before hval0 hW hsz0 hL hsh
  have hG := gw_of hsh hL
  have hval : ∀ (j : Nat) t v, Tryz.f9.params[j]? = some t → args[j]? = some v → Value.okWide Tryz.prog W .any base t v := hval0
  have hW' := hW
  obtain ⟨p, q, hA0, hV, rfl, hfz, hnd⟩ := hW
  have hA : DataW.TrodAll enc Tryz.prog W 0 (fun _ => true) true Tryz.f9.params.toList args.toList ds p := hA0
  rw [Tryz.params9] at hA hval
  obtain ⟨v0, vs0, d0, ds0, p0, q0, hargs0, rfl, rfl, h0, r0⟩ := trodAll_cons hA
  obtain ⟨v1, vs1, d1, ds1, p1, q1, hargs1, rfl, rfl, h1, r1⟩ := trodAll_cons r0
  obtain ⟨v2, vs2, d2, ds2, p2, q2, hargs2, rfl, rfl, h2, r2⟩ := trodAll_cons r1
  obtain ⟨v3, vs3, d3, ds3, p3, q3, hargs3, rfl, rfl, h3, r3⟩ := trodAll_cons r2
  obtain ⟨rfl, rfl, rfl⟩ := trodAll_nil r3
  obtain rfl : args = #[v0, v1, v2, v3] := by cases args; simp_all
  obtain ⟨rfl, rfl⟩ := trodVars_none hV
  obtain ⟨cs0, e0, _⟩ := okWide_struct Tryz.underlying24 (hval 0 _ v0 rfl rfl)
  obtain ⟨a0, ha0⟩ := arg_ag opens_cat e0 h0
  obtain ⟨a1, ha1⟩ := arg_one opens_ints (by obtain ⟨_, _, _, e⟩ := okWide_slice Tryz.underlying45 (hval 1 _ v1 rfl rfl); rw [e]; rfl) h1
  obtain ⟨a2, ea2, _, _, wa2⟩ := open_int Tryz.underlying3 (hval 2 _ v2 rfl rfl) h2
  have ha2 : Rep W (Mall W) (.sc (.int .i64 a2)) v2 := by rw [ea2]; exact .sc _ rfl
  obtain ⟨a3, ea3, _, _, wa3⟩ := open_int Tryz.underlying3 (hval 3 _ v3 rfl rfl) h3
  have ha3 : Rep W (Mall W) (.sc (.int .i64 a3)) v3 := by rw [ea3]; exact .sc _ rfl
  clear hA0 hval0 hsz0
  refine (Fn.row (ts := [ctlT a0, .ls (a1.map intT), .sc (.int .i64 a2), .sc (.int .i64 a3)]) (v := .bool true) (CatalogBare_ok a0 a1 a2 a3) rfl rfl (fun i t u ht hu => ?_) hG).mono fun e W' ⟨he, bel⟩ => ?_
  · match i with
    | 0 => simp at ht hu; subst ht; subst hu; exact ha0
    | 1 => simp at ht hu; subst ht; subst hu; exact ha1
    | 2 => simp at ht hu; subst ht; subst hu; exact ha2
    | 3 => simp at ht hu; subst ht; subst hu; exact ha3
    | i + 4 => simp at ht
  · subst he
    exact ⟨_, rfl, _, _, _, [], _, [], hW', trodAll_mk1 (shut_bool Tryz.underlying4 _), trodAll_cons_mk (stays (by kernel_rfl) (of_decide_eq_true (by kernel_rfl)) h0 bel (fun x hx => hW'.lt x (by simp [hx]))) (trodAll_cons_mk (stays (by kernel_rfl) (of_decide_eq_true (by kernel_rfl)) h1 bel (fun x hx => hW'.lt x (by simp [hx]))) (trodAll_cons_mk (stays (by kernel_rfl) (of_decide_eq_true (by kernel_rfl)) h2 bel (fun x hx => hW'.lt x (by simp [hx]))) (trodAll_cons_mk (stays (by kernel_rfl) (of_decide_eq_true (by kernel_rfl)) h3 bel (fun x hx => hW'.lt x (by simp [hx]))) trodAll_mk0))), rfl, bel.frame _, fun h => by cases h⟩

theorem over : Rows.catalogBareRow.holds Tryz.pinned (OpenSpec.ofChange Rows.catalogBareSpec) :=
  OpenClaim.holds_of_wide 9 Tryz.f9 rfl rfl rfl rfl rfl rfl rfl ⟨rfl, rfl, rfl, rfl, rfl⟩ rfl rfl rfl rfl rfl (by kernel_rfl) Tryz.func9 (by kernel_rfl)
    (of_decide_eq_true (by kernel_rfl)) (by unfold Func.isWrapper; first | (rw [if_pos (by decide +kernel)]; kernel_rfl) | (rw [if_neg (by decide +kernel)]; exact ⟨rfl, rfl⟩))
    (fun os started H enc _ => lifted os started H enc)
end Go.Proofs.YtdjdfdfelcnpmaaGreatDoor.RCatalogBare
namespace Go.Proofs.YtdjdfdfelcnpmaaGreatDoor
open Go
theorem catalogBare_holds : Rows.CatalogBareCardSaid :=
  Claim7.holds_tied_plain_at .later [] [.data, .data, .data, .data, .sentinel, .sentinel, .pinned] true (true, Rows.catalogBareCard.stood.harness.2) true
    RCatalogBare.over (fun _ h => by cases h) (by kernel_rfl) (fun _ h => by cases h) catalogBare_row_tie rfl ⟨rfl, rfl⟩ (by kernel_rfl) rfl
    (fun f fn hf hfn => by
      obtain rfl : f = 9 := Option.some.inj ((show Tryz.prog.funcNamed Rows.catalogBareRow.func = some 9 by kernel_rfl).symm.trans hf) |>.symm
      obtain rfl : fn = Tryz.f9 := (Option.some.inj (Tryz.func9.symm.trans hfn)).symm
      exact ⟨by kernel_rfl, fun j t ht => by
        rw [Tryz.params9] at ht
        have ht2 : t = 24 ∨ t = 45 ∨ t = 3 := by
          rcases j with _ | j
          · (simp at ht); subst ht; simp
          rcases j with _ | j
          · (simp at ht); subst ht; simp
          rcases j with _ | j
          · (simp at ht); subst ht; simp
          rcases j with _ | j
          · (simp at ht); subst ht; simp
          · simp at ht
        rcases ht2 with rfl | rfl | rfl
        · exact (show Tryz.prog.wantsStandIn 24 = false by kernel_rfl)
        · exact (show Tryz.prog.wantsStandIn 45 = false by kernel_rfl)
        · exact (show Tryz.prog.wantsStandIn 3 = false by kernel_rfl)⟩)
    (by kernel_rfl)
#print axioms catalogBare_holds
end Go.Proofs.YtdjdfdfelcnpmaaGreatDoor
