/- A Version by value among the arguments: opened and shut. -/
import Derived.Test.YtckeeefeiljamaaGreatDoorBase
import Derived.Lib.SmallJoins
set_option linter.unusedSimpArgs false
set_option linter.unusedVariables false
namespace Go.Proofs.YtckeeefeiljamaaGreatDoor
open Go.ChangeShapes Go.WideShapes Go.ChangeAt Go.RowKit Go.Joins
open Go.ChangeMaps (open_string shut_string)

def verVal (a b c : Int) (p : ByteArray) : Value := .agg #[.int .i64 a, .int .i64 b, .int .i64 c, .string p]
def verData {H : Type} (a b c : Int) (p : ByteArray) : DataW H := .agg [.lit (.int .i64 a), .lit (.int .i64 b), .lit (.int .i64 c), .lit (.string p.data.toList)]
theorem cells38 : Tryz.prog.cellsOf 38 = 4 := by kernel_rfl
set_option maxRecDepth 100000 in
theorem ver_shut {H : Type} {enc : TypeId × Value → H} {W' : World} {b : Nat} {sp : Nat → Bool} {hd : Bool} {x y z : Int} {p : ByteArray} (wx : (Lit.int .i64 x).wf = true) (wy : (Lit.int .i64 y).wf = true) (wz : (Lit.int .i64 z).wf = true) (wp : p.size ≤ maxLen) :
    DataW.Trod enc Tryz.prog W' b sp hd 38 (verVal x y z p) (verData x y z p) [] := by
  obtain ⟨n, hn⟩ := shut_string (enc := enc) (w := W') (base := b) (sp := sp) (held := hd) Tryz.underlying9 wp
  have := shut_agg4 (enc := enc) (w := W') (base := b) (spare := sp) (held := hd) (y0 := (.lit (.int .i64 x), [])) (y1 := (.lit (.int .i64 y), [])) (y2 := (.lit (.int .i64 z), [])) (y3 := (.lit (.string p.data.toList), [])) Tryz.underlying38 (by kernel_rfl) cells38 ⟨1, trod_int_mk 0 Tryz.underlying3 wx⟩ ⟨1, trod_int_mk 0 Tryz.underlying3 wy⟩ ⟨1, trod_int_mk 0 Tryz.underlying3 wz⟩ ⟨n, by have hn' := hn; rw [show (Value.cells (.string p)).toList = [Value.string p] from rfl] at hn'; exact hn'⟩
  simpa [verVal, verData] using this
set_option maxRecDepth 100000 in
theorem ver_open {H : Type} {enc : TypeId × Value → H} {W : World} {base : Nat} {sp : Nat → Bool} {hd : Bool} {r : Reach} {b0 : Nat} {v : Value} {d : DataW H} {p : List MemPlace} (hv : Value.okWide Tryz.prog W r b0 38 v) (h : DataW.Trod enc Tryz.prog W base sp hd 38 v d p) :
    ∃ (x y z : Int) (s : ByteArray), v = verVal x y z s ∧ d = verData x y z s ∧ p = [] ∧ (Lit.int .i64 x).wf = true ∧ (Lit.int .i64 y).wf = true ∧ (Lit.int .i64 z).wf = true ∧ s.size ≤ maxLen := by
  obtain ⟨v0, v1, v2, v3, y0, y1, y2, y3, n, rfl, rfl, rfl, h0, h1, h2, h3⟩ := open_agg4 Tryz.underlying38 (by kernel_rfl) cells38 hv h
  obtain ⟨x, e0, rfl, wx⟩ := DataW.trod_int Tryz.underlying3 h0
  obtain ⟨y, e1, rfl, wy⟩ := DataW.trod_int Tryz.underlying3 h1
  obtain ⟨z, e2, rfl, wz⟩ := DataW.trod_int Tryz.underlying3 h2
  obtain ⟨s, e3, rfl, ws⟩ := DataW.trod_string Tryz.underlying9 h3
  simp at e0 e1 e2 e3
  subst e0 e1 e2 e3
  exact ⟨x, y, z, s, rfl, rfl, rfl, wx, wy, wz, ws⟩
end Go.Proofs.YtckeeefeiljamaaGreatDoor
