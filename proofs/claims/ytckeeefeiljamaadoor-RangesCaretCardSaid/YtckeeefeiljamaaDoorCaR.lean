/- The theorem: the statement holds; without conditions. -/
import Derived.Test.YtckeeefeiljamaaDoorCa1
import Derived.Test.YtckeeefeiljamaaDoorCa2
import Derived.Test.YtckeeefeiljamaaDoorCa3
import Derived.Test.YtckeeefeiljamaaDoorCa4
import Derived.Test.YtckeeefeiljamaaDoorCards
import Derived.Test.YtckeeefeiljamaaDoorTie
import Derived.SevenTiedAt

set_option linter.unusedSimpArgs false
set_option linter.unusedVariables false
namespace Go.Proofs.YtckeeefeiljamaaDoor.RRangesCaret
open Go Go.Lg Go.Lg.Sem Go.Lg.Tryd Go.ChangeShapes Go.WideShapes Go.ChangeAt Go.RowKit Go.Joins

set_option maxRecDepth 100000 in
set_option maxHeartbeats 1600000 in
theorem lifted (os : Os) (started : os.Started) (H : Type) (enc : TypeId × Value → H) :
    ReturnsInHanded {} Tryd.checked os 3 .any (fun w args => (Rows.rangesCaretSpec.pre enc Tryd.prog Tryd.f3 Rows.rangesCaretRow.domain false w args ∧ laidMetH Tryd.prog theLaid w) ∧ sizedMet enc Tryd.prog Tryd.f3 (OpenSpec.ofChange Rows.rangesCaretSpec) false w args)
      (Rows.rangesCaretSpec.post enc Tryd.prog Tryd.f3 false true false false) := by
  refine returns_both (C := Tryd.checked) (X := fun w _ => laidMetH Tryd.prog theLaid w) (fun _ _ _ hh h => h.of_heap hh) own started (by kernel_rfl) Tryd.func3
    (ChangeSpec.witness_shaped (enc := enc) (C := Tryd.checked) (os := os) (X := fun w _ => laidMetH Tryd.prog theLaid w) false (laidWorld os) #[.agg #[.int .i64 0, .int .i64 0, .int .i64 0, .string ByteArray.empty]] 8 rfl (laidWorld_shaped os _) (by kernel_rfl) (by kernel_rfl) (by kernel_rfl) (laidWorld_met os _)) ?_
  intro W base args ds gs before hval0 hW hsz0 hL hsh
  have hG := gw_of hsh hL
  have hval : ∀ (j : Nat) t v, Tryd.f3.params[j]? = some t → args[j]? = some v → Value.okWide Tryd.prog W .any base t v := hval0
  have hW' := hW
  obtain ⟨p, q, hA0, hV, rfl, hfz, hnd⟩ := hW
  have hA : DataW.TrodAll enc Tryd.prog W 0 (fun _ => true) true Tryd.f3.params.toList args.toList ds p := hA0
  rw [Tryd.params3] at hA hval
  obtain ⟨v0, vs0, d0, ds0, p0, q0, hargs0, rfl, rfl, h0, r0⟩ := trodAll_cons hA
  obtain ⟨rfl, rfl, rfl⟩ := trodAll_nil r0
  obtain rfl : args = #[v0] := by cases args; simp_all
  obtain ⟨rfl, rfl⟩ := trodVars_none hV
  obtain ⟨cs0, e0, _⟩ := okWide_struct Tryd.underlying23 (hval 0 _ v0 rfl rfl)
  obtain ⟨a0, ha0⟩ := arg_ag opens_verS e0 h0
  clear hA0 hval0 hsz0
  refine (Fn.row (ts := [Ver.t a0.1]) (v := .bool true) (RangesCaret_ok a0.1 a0.2) rfl rfl (fun i t u ht hu => ?_) hG).mono fun e W' ⟨he, bel⟩ => ?_
  · match i with
    | 0 => simp at ht hu; subst ht; subst hu; exact ha0
    | i + 1 => simp at ht
  · subst he
    exact ⟨_, rfl, _, _, _, [], _, [], hW', trodAll_mk1 (shut_bool Tryd.underlying4 _), trodAll_cons_mk (stays (by kernel_rfl) (of_decide_eq_true (by kernel_rfl)) h0 bel (fun x hx => hW'.lt x (by simp [hx]))) trodAll_mk0, rfl, bel.frame _, fun h => by cases h⟩

theorem over : Rows.rangesCaretRow.holds Tryd.pinned (OpenSpec.ofChange Rows.rangesCaretSpec) :=
  OpenClaim.holds_of_wide 3 Tryd.f3 rfl rfl rfl rfl rfl rfl rfl ⟨rfl, rfl, rfl, rfl, rfl⟩ rfl rfl rfl rfl rfl (by kernel_rfl) Tryd.func3 (by kernel_rfl)
    (of_decide_eq_true (by kernel_rfl)) (by unfold Func.isWrapper; first | (rw [if_pos (by decide +kernel)]; kernel_rfl) | (rw [if_neg (by decide +kernel)]; exact ⟨rfl, rfl⟩))
    (fun os started H enc _ => lifted os started H enc)
end Go.Proofs.YtckeeefeiljamaaDoor.RRangesCaret
namespace Go.Proofs.YtckeeefeiljamaaDoor
open Go
theorem rangesCaret_holds : Rows.RangesCaretCardSaid :=
  Claim7.holds_tied_plain_at .later [] [.data, .data, .data, .data, .sentinel, .sentinel, .pinned] true (true, Rows.rangesCaretCard.stood.harness.2) true
    RRangesCaret.over (fun _ h => by cases h) (by kernel_rfl) (fun _ h => by cases h) rangesCaret_row_tie rfl ⟨rfl, rfl⟩ (by kernel_rfl) rfl
    (fun f fn hf hfn => by
      obtain rfl : f = 3 := Option.some.inj ((show Tryd.prog.funcNamed Rows.rangesCaretRow.func = some 3 by kernel_rfl).symm.trans hf) |>.symm
      obtain rfl : fn = Tryd.f3 := (Option.some.inj (Tryd.func3.symm.trans hfn)).symm
      exact ⟨by kernel_rfl, fun j t ht => by
        rw [Tryd.params3] at ht
        have ht2 : t = 23 := by
          rcases j with _ | j
          · (simp at ht); subst ht; simp
          · simp at ht
        rcases ht2 with rfl
        · exact (show Tryd.prog.wantsStandIn 23 = false by kernel_rfl)⟩)
    (by kernel_rfl)
#print axioms rangesCaret_holds
end Go.Proofs.YtckeeefeiljamaaDoor
