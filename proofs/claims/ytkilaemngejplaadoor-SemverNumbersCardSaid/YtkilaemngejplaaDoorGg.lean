/- cmp.Compare at strings. -/
import Derived.Test.YtkilaemngejplaaDoorGf
import Derived.WalkLawsBesides
set_option linter.unusedSimpArgs false
set_option linter.unusedVariables false
namespace Go.Proofs.YtkilaemngejplaaDoor
open Go.RowKit Go.Proofs.YtkilaemngejplaaDoorW.PrintWords

def cmpS (a b : ByteArray) : Int := if Op.bytesLess a.toList b.toList = true then -1 else if (a.toList == b.toList) = true then 0 else 1
set_option maxRecDepth 100000 in
theorem isNaN_any (a : ByteArray) (w : World) : Calls Tryd.prog 69 #[.string a] w fun e w' => e = .returned (.bool false) ∧ w = w' := by
  have e0 : (a.toList != a.toList) = false := by simp
  go_enter Tryd.func69, Tryd.ntmps69
  go_wp2_with fail
  go_ret
  exact ⟨by simp, rfl⟩
set_option maxRecDepth 100000 in
theorem cmpS_any (a b : ByteArray) (w : World) : Calls Tryd.prog 49 #[.string a, .string b] w fun e w' => e = .returned (.int .i64 (cmpS a b)) ∧ w = w' := by
  have n1 := Lib.hid (fun W => isNaN_any a W)
  have n2 := Lib.hid (fun W => isNaN_any b W)
  cases h1 : Op.bytesLess a.toList b.toList with
  | true =>
    have HR : Hid (cmpS a b = -1) := Lib.hid (by simp [cmpS, h1])
    go_enter Tryd.func49, Tryd.ntmps49
    go_wp2_with fail
    refine (n1.out _).mono ?_
    rintro e w' ⟨rfl, rfl⟩
    go_wp2_with fail
    refine (n2.out _).mono ?_
    rintro e w' ⟨rfl, rfl⟩
    go_wp2_with fail
    go_ret
    exact ⟨by rw [HR.out]; rfl, rfl⟩
  | false =>
    cases h2 : (a.toList == b.toList) with
    | true =>
      have HR : Hid (cmpS a b = 0) := Lib.hid (by simp [cmpS, h1, h2])
      go_enter Tryd.func49, Tryd.ntmps49
      go_wp2_with fail
      refine (n1.out _).mono ?_
      rintro e w' ⟨rfl, rfl⟩
      go_wp2_with fail
      refine (n2.out _).mono ?_
      rintro e w' ⟨rfl, rfl⟩
      go_wp2_with fail
      go_ret
      exact ⟨by rw [HR.out]; rfl, rfl⟩
    | false =>
      have HR : Hid (cmpS a b = 1) := Lib.hid (by simp [cmpS, h1, h2])
      go_enter Tryd.func49, Tryd.ntmps49
      go_wp2_with fail
      refine (n1.out _).mono ?_
      rintro e w' ⟨rfl, rfl⟩
      go_wp2_with fail
      refine (n2.out _).mono ?_
      rintro e w' ⟨rfl, rfl⟩
      go_wp2_with fail
      go_ret
      exact ⟨by rw [HR.out]; rfl, rfl⟩
def cmp_Compare_string.f (a b : ByteArray) : Option Int := some (cmpS a b)
theorem cmp_Compare_string.calls (a0 a1 : ByteArray) (r : Int) (w : World) (h : cmp_Compare_string.f a0 a1 = some r) :
    Calls Tryd.prog 49 #[.string a0, .string a1] w fun e w' => e = .returned (.int .i64 r) ∧ Drawn0 w w' := by
  obtain rfl := Option.some.inj h
  exact (cmpS_any a0 a1 w).mono fun e w' ⟨he, hw⟩ => ⟨he, hw ▸ Drawn0.refl _⟩
end Go.Proofs.YtkilaemngejplaaDoor
