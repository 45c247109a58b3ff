/- A Range among the arguments: opened, and as it was behind a call. -/
import Derived.Test.YtckeeefeiljamaaGreatDoorBver
import Derived.Test.YtckeeefeiljamaaGreatDoorXJ
import Derived.Deep.Slices
import Derived.Carry
set_option linter.unusedSimpArgs false
set_option linter.unusedVariables false
namespace Go.Proofs.YtckeeefeiljamaaGreatDoor
open Go.ChangeShapes Go.WideShapes Go.ChangeAt Go.RowKit Go.Joins Go.Proofs.YtckeeefeiljamaaGreatDoorW.PrintWords PRan

section
variable {H : Type} {enc : TypeId × Value → H} {P : Program} {W : World}
/-- Whatever reads as a value of type t is one of this kind. -/
def Opens {α : Type} (enc : TypeId × Value → H) (P : Program) (W : World) (t : TypeId) (d : Kd α) : Prop :=
  ∀ (n : Nat) (cs : List Value) (x : DataW H × List MemPlace), DataW.trod enc P W 0 (fun _ => true) true n t cs = some x → ∃ a : α, d.K W a cs
theorem opens_int {t : TypeId} {k : IntKind} (ht : P.underlying t = some (.int k)) : Opens enc P W t (Kd.int k) := fun n cs x h => by
  obtain ⟨z, rfl, _⟩ := DataW.trod_int ht h
  exact ⟨z, rfl⟩
theorem opens_string {t : TypeId} (ht : P.underlying t = some .string) : Opens enc P W t Kd.string := fun n cs x h => by
  obtain ⟨s, rfl, _⟩ := DataW.trod_string ht h
  exact ⟨s, rfl⟩
theorem opens_slice {α : Type} [Inhabited α] {t e : TypeId} {d : Kd α} (ht : P.underlying t = some (.slice e)) (hc : P.cellsOf e = d.sz) (hd : Opens enc P W e d) : Opens enc P W t (Kd.slice e d) := fun n cs x h => by
  rcases Go.Deep.open_slice ht h with ⟨rfl, _⟩ | ⟨a, len, cap, m, n', D, Pl, rfl, hb, hl, hm, hmm, _, hx⟩
  · exact ⟨[], none, 0, rfl, Nat.le_refl _, Kd.C_nil d W⟩
  · simp only [if_true] at hmm
    subst hmm
    obtain ⟨f, hf⟩ := Go.Deep.choose_lt (α := α) (n := len) (p := fun i v => ∃ cs', W.cells? 0 (a.add (i * P.cellsOf e)) (P.cellsOf e) = some cs' ∧ d.K W v cs') (fun i hi => by
      obtain ⟨cs', h1, h2⟩ := hx i (by omega)
      obtain ⟨v, hv⟩ := hd _ _ _ h2
      exact ⟨v, cs', h1, hv⟩)
    refine ⟨(List.range len).map f, some a, m, by simp, by simpa using hl, by simp, ?_, fun _ => ⟨a, rfl, fun j p hj => ?_⟩⟩
    · simp only [List.length_map, List.length_range]
      have : maxLen ≤ 9223372036854775807 := by decide
      omega
    · rw [List.getElem?_map] at hj
      obtain ⟨i, hi, rfl⟩ := Option.map_eq_some_iff.1 hj
      obtain ⟨hji, hi⟩ := List.getElem?_eq_some_iff.1 hi
      rw [List.getElem_range] at hi
      subst hi
      rw [List.length_range] at hji
      obtain ⟨cs', h1, h2⟩ := hf j hji
      obtain ⟨_, h3, h4⟩ := World.cells?_some h1
      rw [hc] at h3 h4 h1
      refine ⟨cs', h3, h2, fun i u hu => ?_⟩
      have hlt : i < d.sz := by rw [← h3]; exact (List.getElem?_eq_some_iff.1 hu).1
      have := h4 i hlt
      rw [Go.Deep.add_add] at this
      exact this.trans hu
end
theorem cellsOf38 : Tryz.prog.cellsOf 38 = 4 := by kernel_rfl
theorem cellsOf48 : Tryz.prog.cellsOf 48 = 5 := by kernel_rfl
theorem cellsOf46 : Tryz.prog.cellsOf 46 = 1 := by kernel_rfl
theorem cellsOf25 : Tryz.prog.cellsOf 25 = 1 := by kernel_rfl
theorem cellsOf3 : Tryz.prog.cellsOf 3 = 1 := by kernel_rfl
theorem cellsOf9 : Tryz.prog.cellsOf 9 = 1 := by kernel_rfl
instance : Inhabited S48 := ⟨z48⟩
section
variable {H : Type} {enc : TypeId × Value → H} {W : World}
theorem opens38 : Opens enc Tryz.prog W 38 k38 := fun n cs x h => by
  obtain ⟨y0, y1, y2, y3, n', _, hl, h0, h1, h2, h3⟩ := trod_struct4 Tryz.underlying38 h
  rw [cellsOf38] at hl
  simp only [cellsOf3, cellsOf9] at h0 h1 h2 h3
  match cs, hl with
  | [c0, c1, c2, c3], _ =>
    obtain ⟨a, e0, _⟩ := DataW.trod_int Tryz.underlying3 h0
    obtain ⟨b, e1, _⟩ := DataW.trod_int Tryz.underlying3 h1
    obtain ⟨c, e2, _⟩ := DataW.trod_int Tryz.underlying3 h2
    obtain ⟨p, e3, _⟩ := DataW.trod_string Tryz.underlying9 h3
    simp at e0 e1 e2 e3
    subst e0 e1 e2 e3
    exact ⟨⟨a, b, c, p⟩, k38_mk W ⟨a, b, c, p⟩⟩
set_option maxRecDepth 100000 in
theorem opens48 : Opens enc Tryz.prog W 48 k48 := fun n cs x h => by
  obtain ⟨xs, n', _, _, hl, hlen, hf⟩ := DataW.trod_struct Tryz.underlying48 h
  rw [cellsOf48] at hl
  have h0 : DataW.trod enc Tryz.prog W 0 (fun _ => true) true n' 3 ((cs.drop 0).take (Tryz.prog.cellsOf 3)) = xs[0]? := hf 0 _ rfl
  have h1 : DataW.trod enc Tryz.prog W 0 (fun _ => true) true n' 38 ((cs.drop 1).take (Tryz.prog.cellsOf 38)) = xs[1]? := hf 1 _ rfl
  have hx : xs.length = 2 := hlen
  rw [cellsOf3] at h0
  rw [cellsOf38] at h1
  match xs, hx with
  | [y0, y1], _ =>
    match cs, hl with
    | [c0, c1, c2, c3, c4], _ =>
      obtain ⟨o, e0, _⟩ := DataW.trod_int Tryz.underlying3 h0
      obtain ⟨v, hv⟩ := opens38 _ _ _ h1
      have e1 := k38_open hv
      simp at e0 e1
      obtain ⟨rfl, rfl, rfl, rfl⟩ := e1
      subst e0
      exact ⟨⟨o, v⟩, k48_mk W ⟨o, v⟩⟩
theorem opens46 : Opens enc Tryz.prog W 46 (Kd.slice 48 k48) := opens_slice Tryz.underlying46 cellsOf48 opens48
theorem opens23 : Opens enc Tryz.prog W 23 (Kd.slice 46 (Kd.slice 48 k48)) := opens_slice Tryz.underlying23 cellsOf46 opens46
set_option maxRecDepth 100000 in
/-- A Range that came in. -/
theorem range_open {r : Reach} {b0 : Nat} {v : Value} {d : DataW H} {p : List MemPlace} (hv : Value.okWide Tryz.prog W r b0 25 v) (h : DataW.Trod enc Tryz.prog W 0 (fun _ => true) true 25 v d p) :
    ∃ (A : Option Addr) (c : Nat) (l : List (List S48)), v = .agg #[.slice A l.length c] ∧ l.length ≤ c ∧ Kd.C (Kd.slice 48 k48) W A l.length l := by
  obtain ⟨cs, rfl, hsz⟩ := okWide_struct Tryz.underlying25 hv
  rw [cellsOf25] at hsz
  obtain ⟨fuel, hf⟩ := h
  obtain ⟨xs, n', _, _, hl, hlen, hx⟩ := DataW.trod_struct Tryz.underlying25 hf
  have h0 : DataW.trod enc Tryz.prog W 0 (fun _ => true) true n' 23 (((Value.agg cs).cells.toList.drop 0).take (Tryz.prog.cellsOf 23)) = xs[0]? := hx 0 _ rfl
  have hxl : xs.length = 1 := hlen
  match xs, hxl with
  | [y0], _ =>
    obtain ⟨⟨l⟩, rfl⟩ : ∃ a : Array Value, cs = a := ⟨cs, rfl⟩
    match l, hsz with
    | [c0], _ =>
      rw [show Tryz.prog.cellsOf 23 = 1 by kernel_rfl] at h0
      obtain ⟨l, hl⟩ := opens23 _ _ _ h0
      obtain ⟨A, c, e, hle, hC⟩ := hl
      simp [Value.cells] at e
      subst e
      exact ⟨A, c, l, rfl, hle, hC⟩
theorem range_stays {W' : World} {v : Value} {d : DataW H} {p : List MemPlace} (h : DataW.Trod enc Tryz.prog W 0 (fun _ => true) true 25 v d p) (hb : Below W.heap.size W W') (hlt : ∀ x ∈ p, x.block < W.heap.size) :
    DataW.Trod enc Tryz.prog W' 0 (fun b => decide (b < W.heap.size)) true 25 v d p :=
  hb.trod laidOut (by kernel_rfl) (of_decide_eq_true (by kernel_rfl)) h hlt
end
end Go.Proofs.YtckeeefeiljamaaGreatDoor
