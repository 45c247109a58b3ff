/- slices.IndexFunc and slices.ContainsFunc at a list of comparisons and at a list of lists, for whatever predicate leaves what lay as it lay. ranges.Range.Right and ranges.Range.Has: what they answer. append of one element to a row of one's own, within a fence. ranges.Parse: what it answers. slipwayref02.Sign: a sign's text. slipwaylaw02.anchor: true. -/
import Derived.Test.YtckeeefeiljamaaGreatDoorProg
import Derived.Below
import Derived.Deep.Draws
import Derived.Deep.AppendLies
import Derived.Maps.AppendAt
import Derived.OwnWalk
import Derived.Laws.BytesArg
import Derived.Laws.MakeOwn
import Derived.Laws.OwnMore
import Derived.Deep.OwnRows
import Derived.Tactics
import Derived.Lib.ConvBytes
import Derived.Laws.Slices
import Derived.WalkKit
import Derived.KernelRfl
import Derived.RowKit3
import Derived.Deep.LoopGhost
import Derived.Deep.QuietTactic
import Derived.BigQuiet
import Derived.WideLaws
import Derived.Deep.DeepCutAuto
import Derived.Deep.CutBlock
import Derived.Deep.RegionHeld3
import Derived.Laws.Rows
import Derived.Lib.AppendStr
import Derived.ArgAppend
import Derived.Laws.IdiomCopy
import Derived.OrdersHeld
import Derived.Laws.BitsLemmas
import Derived.RowKit
import Derived.Test.YtckeeefeiljamaaGreatDoorV1
import Derived.Test.YtckeeefeiljamaaGreatDoorXH
import Derived.OwnWalkIn
namespace Go.Proofs.YtckeeefeiljamaaGreatDoor.PRan
open Go.RowKit Go.Proofs.YtckeeefeiljamaaGreatDoorW.PrintWords Go.Proofs.YtckeeefeiljamaaGreatDoorW.PrintLast Go.Proofs.YtckeeefeiljamaaGreatDoorW.PrintMore
attribute [local go_sem] max2_int min2_int max_two min_two max_three min_three max_four min_four   -- for this text's walks alone
set_option linter.unusedVariables false
set_option linter.unusedSimpArgs false



def errW : Option Int → Value
  | none => .nilIface
  | some c => .iface 0 (.int .i64 c)
theorem errW_none : errW none = .nilIface := rfl
theorem errW_some (c : Int) : errW (some c) = .iface 0 (.int .i64 c) := rfl

theorem info4 : (Tryz.prog.info? 4).map (fun i => (i.zero, i.size, i.bytes)) = some (some (.bool false), 1, 1) := by kernel_rfl
theorem info9 : (Tryz.prog.info? 9).map (fun i => (i.zero, i.size, i.bytes)) = some (some (.string ⟨#[]⟩), 1, 16) := by kernel_rfl
theorem info46 : (Tryz.prog.info? 46).map (fun i => (i.zero, i.size, i.bytes)) = some (some (.slice none 0 0), 1, 24) := by kernel_rfl
theorem info48 : (Tryz.prog.info? 48).map (fun i => (i.zero, i.size, i.bytes)) = some (some (.agg #[(.int .i64 0), (.int .i64 0), (.int .i64 0), (.int .i64 0), (.string ⟨#[]⟩)]), 5, 48) := by kernel_rfl
theorem info51 : (Tryz.prog.info? 51).map (fun i => (i.zero, i.size, i.bytes)) = some (some (.slice none 0 0), 1, 24) := by kernel_rfl
theorem info53 : (Tryz.prog.info? 53).map (fun i => (i.zero, i.size, i.bytes)) = some (some (.agg #[(.int .i64 0), (.int .i64 0), (.int .i64 0), (.int .i64 0), (.string ⟨#[]⟩)]), 5, 48) := by kernel_rfl
-- the values' own types
/-! #### struct type 41 -/
structure S41 where
  f0 : Int
  f1 : Int
  f2 : Int
  f3 : ByteArray
def z41 : S41 := ⟨(0 : Int), (0 : Int), (0 : Int), (⟨#[]⟩ : ByteArray)⟩
def k41 : Kd S41 := Kd.iso (Kd.pair (Kd.int .i64) (Kd.pair (Kd.int .i64) (Kd.pair (Kd.int .i64) Kd.string))) (fun x : S41 => (x.f0, x.f1, x.f2, x.f3))
theorem k41_open {w : World} {x : S41} {cs : List Value} (h : k41.K w x cs) : cs = [.int .i64 x.f0, .int .i64 x.f1, .int .i64 x.f2, .string x.f3] := by
  obtain ⟨_, _, rfl, rfl, ⟨_, _, rfl, rfl, ⟨_, _, rfl, rfl, rfl⟩⟩⟩ := h
  exact rfl
theorem k41_openM {w : World} {base : Nat} {ok : Nat → Prop} {x : S41} {cs : List Value} (h : k41.M w base ok x cs) : cs = [.int .i64 x.f0, .int .i64 x.f1, .int .i64 x.f2, .string x.f3] := by
  obtain ⟨_, _, rfl, rfl, ⟨_, _, rfl, rfl, ⟨_, _, rfl, rfl, rfl⟩⟩⟩ := h
  exact rfl
theorem k41_mk (w : World) (x : S41)  : k41.K w x [.int .i64 x.f0, .int .i64 x.f1, .int .i64 x.f2, .string x.f3] := ⟨[.int .i64 x.f0], [.int .i64 x.f1, .int .i64 x.f2, .string x.f3], rfl, rfl, ⟨[.int .i64 x.f1], [.int .i64 x.f2, .string x.f3], rfl, rfl, ⟨[.int .i64 x.f2], [.string x.f3], rfl, rfl, rfl⟩⟩⟩
theorem k41_mkM (w : World) (base : Nat) (ok : Nat → Prop) (x : S41)  : k41.M w base ok x [.int .i64 x.f0, .int .i64 x.f1, .int .i64 x.f2, .string x.f3] := ⟨[.int .i64 x.f0], [.int .i64 x.f1, .int .i64 x.f2, .string x.f3], rfl, rfl, ⟨[.int .i64 x.f1], [.int .i64 x.f2, .string x.f3], rfl, rfl, ⟨[.int .i64 x.f2], [.string x.f3], rfl, rfl, rfl⟩⟩⟩
theorem k41_mkF (W : World) (ok : Nat → Prop) (x : S41) : Kd.FK k41 W ok x [.int .i64 x.f0, .int .i64 x.f1, .int .i64 x.f2, .string x.f3] := fun W2 _ => k41_mk W2 x
def rd_T41 (xs : List S41) (i : Int) : S41 := xs.getD i.toNat z41
theorem at_T41 {w : World} {A : Option Addr} {n : Nat} {xs : List S41} (h : Kd.C k41 w A n xs) (i : Int) (h0 : 0 ≤ i) (h1 : i < n) : ∃ ad , A = some ad ∧ w.cell? (ad.add (i.toNat * 4)) = some (.int .i64 (rd_T41 xs i).f0) ∧ w.cell? ⟨(ad.add (i.toNat * 4)).block, (ad.add (i.toNat * 4)).off + 1, none⟩ = some (.int .i64 (rd_T41 xs i).f1) ∧ w.cell? ⟨(ad.add (i.toNat * 4)).block, (ad.add (i.toNat * 4)).off + 2, none⟩ = some (.int .i64 (rd_T41 xs i).f2) ∧ w.cell? ⟨(ad.add (i.toNat * 4)).block, (ad.add (i.toNat * 4)).off + 3, none⟩ = some (.string (rd_T41 xs i).f3) := by
  obtain ⟨ad, c, e, _, hK, hc0⟩ := Kd.C_get h z41 i h0 h1
  have hc : ∀ j u, c[j]? = some u → w.cell? (ad.add (i.toNat * 4 + j)) = some u := hc0
  obtain rfl := k41_open hK
  exact ⟨ad, e, hc 0 _ rfl, by rw [← add_field _ _ 1 (by omega)]; exact hc 1 _ rfl, by rw [← add_field _ _ 2 (by omega)]; exact hc 2 _ rfl, by rw [← add_field _ _ 3 (by omega)]; exact hc 3 _ rfl⟩

/-! #### struct type 53 -/
structure S53 where
  f0 : Int
  f1 : S41
def z53 : S53 := ⟨(0 : Int), z41⟩
def k53 : Kd S53 := Kd.iso (Kd.pair (Kd.int .i64) k41) (fun x : S53 => (x.f0, x.f1))
theorem k53_open {w : World} {x : S53} {cs : List Value} (h : k53.K w x cs) : cs = [.int .i64 x.f0, .int .i64 x.f1.f0, .int .i64 x.f1.f1, .int .i64 x.f1.f2, .string x.f1.f3] := by
  obtain ⟨_, _, rfl, rfl, s1⟩ := h
  obtain rfl := k41_open s1
  exact rfl
theorem k53_openM {w : World} {base : Nat} {ok : Nat → Prop} {x : S53} {cs : List Value} (h : k53.M w base ok x cs) : cs = [.int .i64 x.f0, .int .i64 x.f1.f0, .int .i64 x.f1.f1, .int .i64 x.f1.f2, .string x.f1.f3] := by
  obtain ⟨_, _, rfl, rfl, s1⟩ := h
  obtain rfl := k41_openM s1
  exact rfl
theorem k53_mk (w : World) (x : S53)  : k53.K w x [.int .i64 x.f0, .int .i64 x.f1.f0, .int .i64 x.f1.f1, .int .i64 x.f1.f2, .string x.f1.f3] := ⟨[.int .i64 x.f0], [.int .i64 x.f1.f0, .int .i64 x.f1.f1, .int .i64 x.f1.f2, .string x.f1.f3], rfl, rfl, (k41_mk w x.f1 )⟩
theorem k53_mkM (w : World) (base : Nat) (ok : Nat → Prop) (x : S53)  : k53.M w base ok x [.int .i64 x.f0, .int .i64 x.f1.f0, .int .i64 x.f1.f1, .int .i64 x.f1.f2, .string x.f1.f3] := ⟨[.int .i64 x.f0], [.int .i64 x.f1.f0, .int .i64 x.f1.f1, .int .i64 x.f1.f2, .string x.f1.f3], rfl, rfl, (k41_mkM w base ok x.f1 )⟩
theorem k53_mkF (W : World) (ok : Nat → Prop) (x : S53) : Kd.FK k53 W ok x [.int .i64 x.f0, .int .i64 x.f1.f0, .int .i64 x.f1.f1, .int .i64 x.f1.f2, .string x.f1.f3] := fun W2 _ => k53_mk W2 x
def rd_T53 (xs : List S53) (i : Int) : S53 := xs.getD i.toNat z53
theorem at_T53 {w : World} {A : Option Addr} {n : Nat} {xs : List S53} (h : Kd.C k53 w A n xs) (i : Int) (h0 : 0 ≤ i) (h1 : i < n) : ∃ ad , A = some ad ∧ w.cell? (ad.add (i.toNat * 5)) = some (.int .i64 (rd_T53 xs i).f0) ∧ w.cell? ⟨(ad.add (i.toNat * 5)).block, (ad.add (i.toNat * 5)).off + 1, none⟩ = some (.int .i64 (rd_T53 xs i).f1.f0) ∧ w.cell? ⟨(ad.add (i.toNat * 5)).block, (ad.add (i.toNat * 5)).off + 2, none⟩ = some (.int .i64 (rd_T53 xs i).f1.f1) ∧ w.cell? ⟨(ad.add (i.toNat * 5)).block, (ad.add (i.toNat * 5)).off + 3, none⟩ = some (.int .i64 (rd_T53 xs i).f1.f2) ∧ w.cell? ⟨(ad.add (i.toNat * 5)).block, (ad.add (i.toNat * 5)).off + 4, none⟩ = some (.string (rd_T53 xs i).f1.f3) := by
  obtain ⟨ad, c, e, _, hK, hc0⟩ := Kd.C_get h z53 i h0 h1
  have hc : ∀ j u, c[j]? = some u → w.cell? (ad.add (i.toNat * 5 + j)) = some u := hc0
  obtain rfl := k53_open hK
  exact ⟨ad, e, hc 0 _ rfl, by rw [← add_field _ _ 1 (by omega)]; exact hc 1 _ rfl, by rw [← add_field _ _ 2 (by omega)]; exact hc 2 _ rfl, by rw [← add_field _ _ 3 (by omega)]; exact hc 3 _ rfl, by rw [← add_field _ _ 4 (by omega)]; exact hc 4 _ rfl⟩

def rd_L4 (xs : List (List S53)) (i : Int) : (List S53) := xs.getD i.toNat ([] : List S53)
theorem at_L4 {w : World} {A : Option Addr} {n : Nat} {xs : List (List S53)} (h : Kd.C (Kd.slice 53 k53) w A n xs) (i : Int) (h0 : 0 ≤ i) (h1 : i < n) : ∃ ad A0 c0, A = some ad ∧ w.cell? (ad.add i.toNat) = some (.slice A0 (rd_L4 xs i).length c0) ∧ (rd_L4 xs i).length ≤ c0 ∧ k53.C w A0 (rd_L4 xs i).length (rd_L4 xs i) := by
  obtain ⟨ad, c, e, _, hK, hc0⟩ := Kd.C_get h ([] : List S53) i h0 h1
  have hc : ∀ j u, c[j]? = some u → w.cell? (ad.add (i.toNat * 1 + j)) = some u := hc0
  obtain ⟨A0, c0, rfl, l0, g0⟩ := hK
  exact ⟨ad, A0, c0, e, by have hq := hc 0 _ rfl; rwa [Nat.mul_one, Nat.add_zero] at hq, l0, g0⟩

/-! #### struct type 38 -/
structure S38 where
  f0 : Int
  f1 : Int
  f2 : Int
  f3 : ByteArray
def z38 : S38 := ⟨(0 : Int), (0 : Int), (0 : Int), (⟨#[]⟩ : ByteArray)⟩
def k38 : Kd S38 := Kd.iso (Kd.pair (Kd.int .i64) (Kd.pair (Kd.int .i64) (Kd.pair (Kd.int .i64) Kd.string))) (fun x : S38 => (x.f0, x.f1, x.f2, x.f3))
theorem k38_open {w : World} {x : S38} {cs : List Value} (h : k38.K w x cs) : cs = [.int .i64 x.f0, .int .i64 x.f1, .int .i64 x.f2, .string x.f3] := by
  obtain ⟨_, _, rfl, rfl, ⟨_, _, rfl, rfl, ⟨_, _, rfl, rfl, rfl⟩⟩⟩ := h
  exact rfl
theorem k38_openM {w : World} {base : Nat} {ok : Nat → Prop} {x : S38} {cs : List Value} (h : k38.M w base ok x cs) : cs = [.int .i64 x.f0, .int .i64 x.f1, .int .i64 x.f2, .string x.f3] := by
  obtain ⟨_, _, rfl, rfl, ⟨_, _, rfl, rfl, ⟨_, _, rfl, rfl, rfl⟩⟩⟩ := h
  exact rfl
theorem k38_mk (w : World) (x : S38)  : k38.K w x [.int .i64 x.f0, .int .i64 x.f1, .int .i64 x.f2, .string x.f3] := ⟨[.int .i64 x.f0], [.int .i64 x.f1, .int .i64 x.f2, .string x.f3], rfl, rfl, ⟨[.int .i64 x.f1], [.int .i64 x.f2, .string x.f3], rfl, rfl, ⟨[.int .i64 x.f2], [.string x.f3], rfl, rfl, rfl⟩⟩⟩
theorem k38_mkM (w : World) (base : Nat) (ok : Nat → Prop) (x : S38)  : k38.M w base ok x [.int .i64 x.f0, .int .i64 x.f1, .int .i64 x.f2, .string x.f3] := ⟨[.int .i64 x.f0], [.int .i64 x.f1, .int .i64 x.f2, .string x.f3], rfl, rfl, ⟨[.int .i64 x.f1], [.int .i64 x.f2, .string x.f3], rfl, rfl, ⟨[.int .i64 x.f2], [.string x.f3], rfl, rfl, rfl⟩⟩⟩
theorem k38_mkF (W : World) (ok : Nat → Prop) (x : S38) : Kd.FK k38 W ok x [.int .i64 x.f0, .int .i64 x.f1, .int .i64 x.f2, .string x.f3] := fun W2 _ => k38_mk W2 x
def rd_T38 (xs : List S38) (i : Int) : S38 := xs.getD i.toNat z38
theorem at_T38 {w : World} {A : Option Addr} {n : Nat} {xs : List S38} (h : Kd.C k38 w A n xs) (i : Int) (h0 : 0 ≤ i) (h1 : i < n) : ∃ ad , A = some ad ∧ w.cell? (ad.add (i.toNat * 4)) = some (.int .i64 (rd_T38 xs i).f0) ∧ w.cell? ⟨(ad.add (i.toNat * 4)).block, (ad.add (i.toNat * 4)).off + 1, none⟩ = some (.int .i64 (rd_T38 xs i).f1) ∧ w.cell? ⟨(ad.add (i.toNat * 4)).block, (ad.add (i.toNat * 4)).off + 2, none⟩ = some (.int .i64 (rd_T38 xs i).f2) ∧ w.cell? ⟨(ad.add (i.toNat * 4)).block, (ad.add (i.toNat * 4)).off + 3, none⟩ = some (.string (rd_T38 xs i).f3) := by
  obtain ⟨ad, c, e, _, hK, hc0⟩ := Kd.C_get h z38 i h0 h1
  have hc : ∀ j u, c[j]? = some u → w.cell? (ad.add (i.toNat * 4 + j)) = some u := hc0
  obtain rfl := k38_open hK
  exact ⟨ad, e, hc 0 _ rfl, by rw [← add_field _ _ 1 (by omega)]; exact hc 1 _ rfl, by rw [← add_field _ _ 2 (by omega)]; exact hc 2 _ rfl, by rw [← add_field _ _ 3 (by omega)]; exact hc 3 _ rfl⟩

/-! #### struct type 48 -/
structure S48 where
  f0 : Int
  f1 : S38
def z48 : S48 := ⟨(0 : Int), z38⟩
def k48 : Kd S48 := Kd.iso (Kd.pair (Kd.int .i64) k38) (fun x : S48 => (x.f0, x.f1))
theorem k48_open {w : World} {x : S48} {cs : List Value} (h : k48.K w x cs) : cs = [.int .i64 x.f0, .int .i64 x.f1.f0, .int .i64 x.f1.f1, .int .i64 x.f1.f2, .string x.f1.f3] := by
  obtain ⟨_, _, rfl, rfl, s1⟩ := h
  obtain rfl := k38_open s1
  exact rfl
theorem k48_openM {w : World} {base : Nat} {ok : Nat → Prop} {x : S48} {cs : List Value} (h : k48.M w base ok x cs) : cs = [.int .i64 x.f0, .int .i64 x.f1.f0, .int .i64 x.f1.f1, .int .i64 x.f1.f2, .string x.f1.f3] := by
  obtain ⟨_, _, rfl, rfl, s1⟩ := h
  obtain rfl := k38_openM s1
  exact rfl
theorem k48_mk (w : World) (x : S48)  : k48.K w x [.int .i64 x.f0, .int .i64 x.f1.f0, .int .i64 x.f1.f1, .int .i64 x.f1.f2, .string x.f1.f3] := ⟨[.int .i64 x.f0], [.int .i64 x.f1.f0, .int .i64 x.f1.f1, .int .i64 x.f1.f2, .string x.f1.f3], rfl, rfl, (k38_mk w x.f1 )⟩
theorem k48_mkM (w : World) (base : Nat) (ok : Nat → Prop) (x : S48)  : k48.M w base ok x [.int .i64 x.f0, .int .i64 x.f1.f0, .int .i64 x.f1.f1, .int .i64 x.f1.f2, .string x.f1.f3] := ⟨[.int .i64 x.f0], [.int .i64 x.f1.f0, .int .i64 x.f1.f1, .int .i64 x.f1.f2, .string x.f1.f3], rfl, rfl, (k38_mkM w base ok x.f1 )⟩
theorem k48_mkF (W : World) (ok : Nat → Prop) (x : S48) : Kd.FK k48 W ok x [.int .i64 x.f0, .int .i64 x.f1.f0, .int .i64 x.f1.f1, .int .i64 x.f1.f2, .string x.f1.f3] := fun W2 _ => k48_mk W2 x
def rd_T48 (xs : List S48) (i : Int) : S48 := xs.getD i.toNat z48
theorem at_T48 {w : World} {A : Option Addr} {n : Nat} {xs : List S48} (h : Kd.C k48 w A n xs) (i : Int) (h0 : 0 ≤ i) (h1 : i < n) : ∃ ad , A = some ad ∧ w.cell? (ad.add (i.toNat * 5)) = some (.int .i64 (rd_T48 xs i).f0) ∧ w.cell? ⟨(ad.add (i.toNat * 5)).block, (ad.add (i.toNat * 5)).off + 1, none⟩ = some (.int .i64 (rd_T48 xs i).f1.f0) ∧ w.cell? ⟨(ad.add (i.toNat * 5)).block, (ad.add (i.toNat * 5)).off + 2, none⟩ = some (.int .i64 (rd_T48 xs i).f1.f1) ∧ w.cell? ⟨(ad.add (i.toNat * 5)).block, (ad.add (i.toNat * 5)).off + 3, none⟩ = some (.int .i64 (rd_T48 xs i).f1.f2) ∧ w.cell? ⟨(ad.add (i.toNat * 5)).block, (ad.add (i.toNat * 5)).off + 4, none⟩ = some (.string (rd_T48 xs i).f1.f3) := by
  obtain ⟨ad, c, e, _, hK, hc0⟩ := Kd.C_get h z48 i h0 h1
  have hc : ∀ j u, c[j]? = some u → w.cell? (ad.add (i.toNat * 5 + j)) = some u := hc0
  obtain rfl := k48_open hK
  exact ⟨ad, e, hc 0 _ rfl, by rw [← add_field _ _ 1 (by omega)]; exact hc 1 _ rfl, by rw [← add_field _ _ 2 (by omega)]; exact hc 2 _ rfl, by rw [← add_field _ _ 3 (by omega)]; exact hc 3 _ rfl, by rw [← add_field _ _ 4 (by omega)]; exact hc 4 _ rfl⟩

def rd_L7 (xs : List (List S48)) (i : Int) : (List S48) := xs.getD i.toNat ([] : List S48)
theorem at_L7 {w : World} {A : Option Addr} {n : Nat} {xs : List (List S48)} (h : Kd.C (Kd.slice 48 k48) w A n xs) (i : Int) (h0 : 0 ≤ i) (h1 : i < n) : ∃ ad A0 c0, A = some ad ∧ w.cell? (ad.add i.toNat) = some (.slice A0 (rd_L7 xs i).length c0) ∧ (rd_L7 xs i).length ≤ c0 ∧ k48.C w A0 (rd_L7 xs i).length (rd_L7 xs i) := by
  obtain ⟨ad, c, e, _, hK, hc0⟩ := Kd.C_get h ([] : List S48) i h0 h1
  have hc : ∀ j u, c[j]? = some u → w.cell? (ad.add (i.toNat * 1 + j)) = some u := hc0
  obtain ⟨A0, c0, rfl, l0, g0⟩ := hK
  exact ⟨ad, A0, c0, e, by have hq := hc 0 _ rfl; rwa [Nat.mul_one, Nat.add_zero] at hq, l0, g0⟩

end Go.Proofs.YtckeeefeiljamaaGreatDoor.PRan
set_option linter.unusedSimpArgs false
set_option linter.unusedVariables false
namespace Go.Proofs.YtckeeefeiljamaaGreatDoor
open Go.RowKit Go.Lib Go.Shelf Go.Proofs.YtckeeefeiljamaaGreatDoorW.PrintWords PRan

abbrev L1 := List S48
abbrev L2 := List (List S48)
abbrev cV (x : S48) : Value := .agg #[.int .i64 x.f0, .int .i64 x.f1.f0, .int .i64 x.f1.f1, .int .i64 x.f1.f2, .string x.f1.f3]
theorem rd_mem {α : Type} {l : List α} {z : α} {i : Int} (h0 : 0 ≤ i) (h1 : i < l.length) : l.getD i.toNat z ∈ l := by
  rw [List.getD_eq_getElem?_getD, List.getElem?_eq_getElem (by omega)]; exact List.getElem_mem _
theorem any_hit {α : Type} {l : List α} {z : α} {p : α → Bool} {i : Int} (h0 : 0 ≤ i) (h1 : i < l.length) (h : p (l.getD i.toNat z) = true) : l.any p = true :=
  List.any_eq_true.2 ⟨_, rd_mem h0 h1, h⟩
theorem any_miss {α : Type} {l : List α} {z : α} {p : α → Bool} (h : ∀ j : Nat, (j : Int) < l.length → p (l.getD j z) = false) : l.any p = false := by
  rw [List.any_eq_false]
  intro x hx
  obtain ⟨j, hj, rfl⟩ := List.getElem_of_mem hx
  have := h j (by omega)
  rw [List.getD_eq_getElem?_getD, List.getElem?_eq_getElem hj] at this
  simpa using this

set_option maxHeartbeats 2000000 in
theorem index59 (g : Nat) (lb : Array Value) (eg : ∀ args w, (callFunc g args).run Tryz.prog w = .ok (.enter g args) w) (A : Option Addr) (c : Nat) (l : L1) (p : S48 → Bool) (w : World)
    (hp : ∀ (W : World) (x : S48), x ∈ l → Below w.heap.size w W → Calls Tryz.prog g (#[cV x] ++ lb) W fun e w' => e = .returned (.bool (p x)) ∧ Below w.heap.size w w')
    (hC : Kd.C k48 w A l.length l) :
    Calls Tryz.prog 59 #[.slice A l.length c, .func (.func g) #[] lb] w fun e w' => ∃ r : Int, e = .returned (.int .i64 r) ∧ decide (0 ≤ r) = l.any p ∧ Below w.heap.size w w' := by
  have hmax : (l.length : Int) ≤ 9223372036854775807 := by have := Kd.C_max hC; omega
  have HP := Lib.hid hp
  have HC := Lib.hid hC
  clear hp hC
  go_enter Tryz.func59, Tryz.ntmps59
  go_wp2
  go_loopg [5, 8] l.length (fun gg _ s8 wr => ∃ i : Int, 0 ≤ i ∧ i ≤ l.length ∧ (l.length : Int) - i ≤ gg ∧ s8 = .int .i64 i ∧ Aside0 (Below w.heap.size w wr) ∧ Aside0 (∀ j : Nat, (j : Int) < i → p (l.getD j z48) = false))
  case atStart => exact ⟨0, by omega, by omega, by omega, rfl, ⟨Below.refl _ w⟩, ⟨fun j hj => absurd hj (by omega)⟩⟩
  case round =>
    obtain ⟨i, h0, h1, hg, rfl, BW, AL⟩ := hrel
    by_cases hlt : i < (l.length : Int)
    · obtain ⟨ad, rfl, hx0, hx1, hx2, hx3, hx4⟩ := at_T48 HC.out i h0 hlt
      replace hx0 := (BW.out.cell (World.block_lt_of_cell? w _ hx0)).trans hx0
      replace hx1 := (BW.out.cell (World.block_lt_of_cell? w _ hx1)).trans hx1
      replace hx2 := (BW.out.cell (World.block_lt_of_cell? w _ hx2)).trans hx2
      replace hx3 := (BW.out.cell (World.block_lt_of_cell? w _ hx3)).trans hx3
      replace hx4 := (BW.out.cell (World.block_lt_of_cell? w _ hx4)).trans hx4
      have hm : rd_T48 l i ∈ l := rd_mem h0 hlt
      have hcall := Aside0.mk (HP.out wr (rd_T48 l i) hm BW.out)
      have hy : Aside0 (p (l.getD i.toNat z48) = p (rd_T48 l i)) := ⟨rfl⟩
      have p0 := eq_true h0
      have p1 := eq_true hlt
      have d1 : decide (i < (l.length : Int)) = true := decide_eq_true hlt
      generalize rd_T48 l i = y at *
      cases hq : p y with
      | true =>
        rw [hq] at hcall hy
        have HY := Aside0.mk hy.out
        clear hq hy hm
        go_wp2_with (go_at_fn g; refine hcall.out.mono ?_; rintro e w' ⟨rfl, hb'⟩)
        go_ret
        exact ⟨i, rfl, by rw [decide_eq_true h0, any_hit h0 hlt HY.out], hb'⟩
      | false =>
        rw [hq] at hcall hy
        have HY := Aside0.mk hy.out
        clear hq hy hm
        go_wp2_with (go_at_fn g; refine hcall.out.mono ?_; rintro e w' ⟨rfl, hb'⟩)
        go_roundg (gk - 1)
        case measure => omega
        case rel =>
          refine ⟨i + 1, by omega, by omega, by omega, by go_num, ⟨hb'⟩, ⟨fun j hj => ?_⟩⟩
          by_cases e : (j : Int) = i
          · have : j = i.toNat := by omega
            subst this; exact HY.out
          · exact AL.out j (by omega)
    · have d1 : decide (i < (l.length : Int)) = false := decide_eq_false hlt
      obtain rfl : i = l.length := by omega
      go_wp2
      go_ret
      exact ⟨-1, rfl, by rw [any_miss AL.out]; rfl, BW.out⟩
set_option maxHeartbeats 2000000 in
theorem index58 (g : Nat) (lb : Array Value) (eg : ∀ args w, (callFunc g args).run Tryz.prog w = .ok (.enter g args) w) (A : Option Addr) (c : Nat) (l : L2) (p : L1 → Bool) (w : World)
    (hp : ∀ (W : World) (x : L1) (A' : Option Addr) (c' : Nat), x ∈ l → Below w.heap.size w W → x.length ≤ c' → Kd.C k48 W A' x.length x → Calls Tryz.prog g (#[.slice A' x.length c'] ++ lb) W fun e w' => e = .returned (.bool (p x)) ∧ Below w.heap.size w w')
    (hC : Kd.C (Kd.slice 48 k48) w A l.length l) :
    Calls Tryz.prog 58 #[.slice A l.length c, .func (.func g) #[] lb] w fun e w' => ∃ r : Int, e = .returned (.int .i64 r) ∧ decide (0 ≤ r) = l.any p ∧ Below w.heap.size w w' := by
  have hmax : (l.length : Int) ≤ 9223372036854775807 := by have := Kd.C_max hC; omega
  have HP := Lib.hid hp
  have HC := Lib.hid hC
  clear hp hC
  go_enter Tryz.func58, Tryz.ntmps58
  go_wp2
  go_loopg [5, 8] l.length (fun gg _ s8 wr => ∃ i : Int, 0 ≤ i ∧ i ≤ l.length ∧ (l.length : Int) - i ≤ gg ∧ s8 = .int .i64 i ∧ Aside0 (Below w.heap.size w wr) ∧ Aside0 (∀ j : Nat, (j : Int) < i → p (l.getD j ([] : L1)) = false))
  case atStart => exact ⟨0, by omega, by omega, by omega, rfl, ⟨Below.refl _ w⟩, ⟨fun j hj => absurd hj (by omega)⟩⟩
  case round =>
    obtain ⟨i, h0, h1, hg, rfl, BW, AL⟩ := hrel
    by_cases hlt : i < (l.length : Int)
    · obtain ⟨ad, A', c', rfl, hx0, hl, hi⟩ := at_L7 HC.out i h0 hlt
      replace hx0 := (BW.out.cell (World.block_lt_of_cell? w _ hx0)).trans hx0
      have hm : rd_L7 l i ∈ l := rd_mem h0 hlt
      have hcall := Aside0.mk (HP.out wr (rd_L7 l i) A' c' hm BW.out hl (Kd.C_below hi BW.out))
      clear hl hi
      have hy : Aside0 (p (l.getD i.toNat ([] : L1)) = p (rd_L7 l i)) := ⟨rfl⟩
      have p0 := eq_true h0
      have p1 := eq_true hlt
      have d1 : decide (i < (l.length : Int)) = true := decide_eq_true hlt
      generalize rd_L7 l i = y at *
      cases hq : p y with
      | true =>
        rw [hq] at hcall hy
        have HY := Aside0.mk hy.out
        clear hq hy hm
        go_wp2_with (go_at_fn g; refine hcall.out.mono ?_; rintro e w' ⟨rfl, hb'⟩)
        go_ret
        exact ⟨i, rfl, by rw [decide_eq_true h0, any_hit h0 hlt HY.out], hb'⟩
      | false =>
        rw [hq] at hcall hy
        have HY := Aside0.mk hy.out
        clear hq hy hm
        go_wp2_with (go_at_fn g; refine hcall.out.mono ?_; rintro e w' ⟨rfl, hb'⟩)
        go_roundg (gk - 1)
        case measure => omega
        case rel =>
          refine ⟨i + 1, by omega, by omega, by omega, by go_num, ⟨hb'⟩, ⟨fun j hj => ?_⟩⟩
          by_cases e : (j : Int) = i
          · have : j = i.toNat := by omega
            subst this; exact HY.out
          · exact AL.out j (by omega)
    · have d1 : decide (i < (l.length : Int)) = false := decide_eq_false hlt
      obtain rfl : i = l.length := by omega
      go_wp2
      go_ret
      exact ⟨-1, rfl, by rw [any_miss AL.out]; rfl, BW.out⟩
theorem contains35 (g : Nat) (lb : Array Value) (eg : ∀ args w, (callFunc g args).run Tryz.prog w = .ok (.enter g args) w) (A : Option Addr) (c : Nat) (l : L1) (p : S48 → Bool) (w : World)
    (hp : ∀ (W : World) (x : S48), x ∈ l → Below w.heap.size w W → Calls Tryz.prog g (#[cV x] ++ lb) W fun e w' => e = .returned (.bool (p x)) ∧ Below w.heap.size w w')
    (hC : Kd.C k48 w A l.length l) :
    Calls Tryz.prog 35 #[.slice A l.length c, .func (.func g) #[] lb] w fun e w' => e = .returned (.bool (l.any p)) ∧ Below w.heap.size w w' := by
  have H := Lib.hid (index59 g lb eg A c l p w hp hC)
  clear hp hC eg
  generalize l.any p = q at H ⊢
  go_enter Tryz.func35, Tryz.ntmps35
  go_wp2_with (go_at_call 59; refine H.out.mono ?_; rintro e w' ⟨r, rfl, hr, hb'⟩)
  go_ret
  exact ⟨by first | rfl | rw [hr], hb'⟩
theorem contains33 (g : Nat) (lb : Array Value) (eg : ∀ args w, (callFunc g args).run Tryz.prog w = .ok (.enter g args) w) (A : Option Addr) (c : Nat) (l : L2) (p : L1 → Bool) (w : World)
    (hp : ∀ (W : World) (x : L1) (A' : Option Addr) (c' : Nat), x ∈ l → Below w.heap.size w W → x.length ≤ c' → Kd.C k48 W A' x.length x → Calls Tryz.prog g (#[.slice A' x.length c'] ++ lb) W fun e w' => e = .returned (.bool (p x)) ∧ Below w.heap.size w w')
    (hC : Kd.C (Kd.slice 48 k48) w A l.length l) :
    Calls Tryz.prog 33 #[.slice A l.length c, .func (.func g) #[] lb] w fun e w' => e = .returned (.bool (l.any p)) ∧ Below w.heap.size w w' := by
  have H := Lib.hid (index58 g lb eg A c l p w hp hC)
  clear hp hC eg
  generalize l.any p = q at H ⊢
  go_enter Tryz.func33, Tryz.ntmps33
  go_wp2_with (go_at_call 58; refine H.out.mono ?_; rintro e w' ⟨r, rfl, hr, hb'⟩)
  go_ret
  exact ⟨by first | rfl | rw [hr], hb'⟩
end Go.Proofs.YtckeeefeiljamaaGreatDoor
set_option linter.unusedSimpArgs false
set_option linter.unusedVariables false
namespace Go.Proofs.YtckeeefeiljamaaGreatDoor
open Go.RowKit Go.Lib Go.Shelf Go.Proofs.YtckeeefeiljamaaGreatDoorW.PrintWords PRan

def sizedB (n : Nat) : Bool := decide (1 ≤ n) && decide (n ≤ 8)
def cR (x : S48) : Bool := compR x.f0 x.f1.f0 x.f1.f1 x.f1.f2 x.f1.f3
def cH (x : S48) (a b c : Int) (p : ByteArray) : Bool := hasV x.f0 x.f1.f0 x.f1.f1 x.f1.f2 x.f1.f3 a b c p
def listR (l : L1) : Bool := sizedB l.length && l.all cR
def rangeR (r : L2) : Bool := r.all listR && sizedB r.length
def tinyR (r : L2) : Prop := ∀ l ∈ r, ∀ x ∈ l, tiny x.f1.f3
def tinyB (r : L2) : Bool := r.all (fun l => l.all (fun x => decide (x.f1.f3.size ≤ 1000)))
theorem tinyB_iff {r : L2} : tinyB r = true ↔ tinyR r := by unfold tinyB tinyR; simp [List.all_eq_true]
def rangeH (r : L2) (a b c : Int) (p : ByteArray) : Bool := rangeR r && (rightB a b c p && r.any (fun l => l.all (fun x => cH x a b c p)))
theorem any_not {α : Type} (l : List α) (p : α → Bool) : l.any (fun x => !p x) = !l.all p := by
  induction l with
  | nil => rfl
  | cons x t ih => simp [ih]

theorem sized_any (n : Nat) (w : World) (h : n ≤ 9223372036854775807) : Calls Tryz.prog 41 #[.int .i64 n] w fun e w' => e = .returned (.bool (sizedB n)) ∧ Below w.heap.size w w' := by
  have HB := Below.refl w.heap.size w
  unfold sizedB
  by_cases h1 : 1 ≤ n
  · have d1 : decide ((n : Int) ≥ 1) = true := decide_eq_true (by omega)
    have d1' : decide ((1 : Int) ≤ n) = true := decide_eq_true (by omega)
    by_cases h2 : n ≤ 8
    · have d2 : decide ((n : Int) ≤ 8) = true := decide_eq_true (by omega)
      rw [decide_eq_true h1, decide_eq_true h2]
      clear h1 h2
      go_enter Tryz.func41, Tryz.ntmps41
      go_wp2
      go_ret
      exact ⟨rfl, HB⟩
    · have d2 : decide ((n : Int) ≤ 8) = false := decide_eq_false (by omega)
      rw [decide_eq_true h1, decide_eq_false h2]
      clear h1 h2
      go_enter Tryz.func41, Tryz.ntmps41
      go_wp2
      go_ret
      exact ⟨rfl, HB⟩
  · have d1 : decide ((n : Int) ≥ 1) = false := decide_eq_false (by omega)
    have d1' : decide ((1 : Int) ≤ n) = false := decide_eq_false (by omega)
    rw [decide_eq_false h1]
    clear h1
    go_enter Tryz.func41, Tryz.ntmps41
    go_wp2
    go_ret
    exact ⟨rfl, HB⟩

theorem right1_pred (l : L1) (hl : ∀ x ∈ l, tiny x.f1.f3) (w : World) (hG : Gw w) : ∀ (W : World) (x : S48), x ∈ l → Below w.heap.size w W →
    Calls Tryz.prog 42 (#[cV x] ++ #[]) W fun e w' => e = .returned (.bool (!cR x)) ∧ Below w.heap.size w w' := fun W x hx hb =>
  (ranges_Range_Right_1.calls x.f0 x.f1.f0 x.f1.f1 x.f1.f2 x.f1.f3 _ W (hG.below hb) (by unfold ranges_Range_Right_1.f; rw [if_pos (hl x hx)]; rfl)).mono fun e w' ⟨he, hb'⟩ => ⟨he, hb.trans (hb'.mono hb.size)⟩

set_option maxHeartbeats 2000000 in
theorem Right_walk (A : Option Addr) (c : Nat) (r : L2) (w : World) (hG : Gw w) (hs : tinyR r) (hC : Kd.C (Kd.slice 48 k48) w A r.length r) :
    Calls Tryz.prog 20 #[.agg #[.slice A r.length c]] w fun e w' => e = .returned (.bool (rangeR r)) ∧ Below w.heap.size w w' := by
  have hmax : r.length ≤ 9223372036854775807 := Kd.C_max hC
  have HS := Lib.hid hs
  have HC := Lib.hid hC
  have HG := Lib.hid hG
  have e42 : ∀ args w, (callFunc 42 args).run Tryz.prog w = .ok (.enter 42 args) w := enters_of Tryz.func42 (by kernel_rfl) rfl
  have HE := Lib.hid e42
  clear hs hC hG e42
  go_enter Tryz.func20, Tryz.ntmps20
  go_wp2
  go_loopg [4, 8] r.length (fun gg _ s8 wr => ∃ i : Int, 0 ≤ i ∧ i ≤ r.length ∧ (r.length : Int) - i ≤ gg ∧ s8 = .int .i64 i ∧ Aside0 (Below w.heap.size w wr) ∧ wr.cell? ⟨w.heap.size, 0, none⟩ = some (.slice A r.length c) ∧ Aside0 (∀ j : Nat, (j : Int) < i → listR (r.getD j ([] : L1)) = true))
  case atStart => exact ⟨0, by omega, by omega, by omega, rfl, ⟨(Below.refl _ w).alloc (Nat.le_refl _) _⟩, by simp, ⟨fun j hj => absurd hj (by omega)⟩⟩
  case round =>
    obtain ⟨i, h0, h1, hg, rfl, BW, cr, AL⟩ := hrel
    by_cases hlt : i < (r.length : Int)
    · obtain ⟨ad, A', c', rfl, hx0, hl, hi⟩ := at_L7 HC.out i h0 hlt
      replace hx0 := (BW.out.cell (World.block_lt_of_cell? w _ hx0)).trans hx0
      have hm : rd_L7 r i ∈ r := rd_mem h0 hlt
      have HT := Aside0.mk (HS.out _ hm)
      have HI := Aside0.mk hi
      have hy : Aside0 (listR (r.getD i.toNat ([] : L1)) = listR (rd_L7 r i)) := ⟨rfl⟩
      have hmem := Aside0.mk hm
      clear hl hi hm
      have p0 := eq_true h0
      have p1 := eq_true hlt
      have d1 : decide (i < (r.length : Int)) = true := decide_eq_true hlt
      generalize rd_L7 r i = y at *
      have hym : y.length ≤ 9223372036854775807 := Kd.C_max HI.out
      cases hz : sizedB y.length with
      | false =>
        have hno : Aside0 (rangeR r = false) := ⟨by
          unfold rangeR
          rw [Bool.and_eq_false_iff]; left
          rw [← Bool.not_eq_true, List.all_eq_true]
          intro h
          have := h y hmem.out
          unfold listR at this
          rw [hz] at this; cases this⟩
        have HZ := Aside0.mk (fun W => sized_any y.length W hym)
        rw [hz] at HZ
        clear hz
        go_wp2_with (go_at_call 41; refine (HZ.out _).mono ?_; rintro e w' ⟨rfl, hb'⟩)
        go_ret
        exact ⟨by rw [hno.out]; rfl, BW.out.trans (hb'.mono BW.out.size)⟩
      | true =>
        have HZ := Aside0.mk (fun W => sized_any y.length W hym)
        rw [hz] at HZ
        have HZ' := Aside0.mk hz
        clear hz
        cases hq : y.all cR with
        | false =>
          have hno : Aside0 (rangeR r = false) := ⟨by
            unfold rangeR
            rw [Bool.and_eq_false_iff]; left
            rw [← Bool.not_eq_true, List.all_eq_true]
            intro h
            have := h y hmem.out
            unfold listR at this
            rw [hq, Bool.and_false] at this; cases this⟩
          have HQ := Aside0.mk hq
          clear hq
          go_wp2_with (first | (go_at_call 41; refine (HZ.out _).mono ?_; rintro e w1 ⟨rfl, hb1⟩; have HB1 := Aside0.mk (BW.out.trans (hb1.mono BW.out.size)); clear hb1) | (go_at_call 35; refine (contains35 42 #[] HE.out A' c' y (fun x => !cR x) _ (right1_pred y HT.out _ (HG.out.below HB1.out)) (Kd.C_below HI.out HB1.out)).mono ?_; rw [any_not, HQ.out]; rintro e w2 ⟨rfl, hb2⟩; have HB2 := Aside0.mk (HB1.out.trans (hb2.mono HB1.out.size)); clear hb2))
          go_ret
          exact ⟨by rw [hno.out]; rfl, HB2.out⟩
        | true =>
          have HQ := Aside0.mk hq
          clear hq
          go_wp2_with (first | (go_at_call 41; refine (HZ.out _).mono ?_; rintro e w1 ⟨rfl, hb1⟩; have cr1 := (hb1.cell (World.block_lt_of_cell? _ _ cr)).trans cr; have HB1 := Aside0.mk (BW.out.trans (hb1.mono BW.out.size)); clear hb1) | (go_at_call 35; refine (contains35 42 #[] HE.out A' c' y (fun x => !cR x) _ (right1_pred y HT.out _ (HG.out.below HB1.out)) (Kd.C_below HI.out HB1.out)).mono ?_; rw [any_not, HQ.out]; rintro e w2 ⟨rfl, hb2⟩; have cr2 := (hb2.cell (World.block_lt_of_cell? _ _ cr1)).trans cr1; have HB2 := Aside0.mk (HB1.out.trans (hb2.mono HB1.out.size)); clear hb2))
          go_roundg (gk - 1)
          case measure => omega
          case rel =>
            refine ⟨i + 1, by omega, by omega, by omega, by go_num, HB2, cr2, ⟨fun j hj => ?_⟩⟩
            by_cases e : (j : Int) = i
            · have : j = i.toNat := by omega
              subst this
              rw [hy.out]; unfold listR; rw [HZ'.out, HQ.out]; rfl
            · exact AL.out j (by omega)
    · have d1 : decide (i < (r.length : Int)) = false := decide_eq_false hlt
      obtain rfl : i = r.length := by omega
      have hall : Aside0 (rangeR r = sizedB r.length) := ⟨by
        unfold rangeR
        rw [show r.all listR = true from by
          rw [List.all_eq_true]
          intro x hx
          obtain ⟨j, hj, rfl⟩ := List.getElem_of_mem hx
          have := AL.out j (by omega)
          rw [List.getD_eq_getElem?_getD, List.getElem?_eq_getElem hj] at this
          exact this, Bool.true_and]⟩
      have HZ := Aside0.mk (fun W => sized_any r.length W hmax)
      go_wp2_with (go_at_call 41; refine (HZ.out _).mono ?_; rintro e w' ⟨rfl, hb'⟩)
      go_ret
      exact ⟨by rw [hall.out]; rfl, BW.out.trans (hb'.mono BW.out.size)⟩

def ranges_Range_Right.f (r : L2) : Option Bool := if tinyB r = true then some (rangeR r) else none
theorem ranges_Range_Right.calls (A0 : Option Addr) (c0 : Nat) (l0 : L2) (r : Bool) (w : World) (hr0 : Kd.C (Kd.slice 48 k48) w A0 l0.length l0) (hc0 : l0.length ≤ c0) (hG : Gw w) (h : ranges_Range_Right.f l0 = some r) :
    Calls Tryz.prog 20 #[.agg #[.slice A0 l0.length c0]] w fun e w' => e = .returned (.bool r) ∧ Below w.heap.size w w' := by
  unfold ranges_Range_Right.f at h
  split at h
  · rename_i hs
    obtain rfl := Option.some.inj h
    exact Right_walk A0 c0 l0 w hG (tinyB_iff.1 hs) hr0
  · cases h

/-! Has -/
theorem has11_pred (B : Nat) (a b c : Int) (p : ByteArray) (hp : tiny p) (l : L1) (hl : ∀ x ∈ l, tiny x.f1.f3) (w : World) (hG : Gw w) (hB : w.heap[B]? = some (.cells #[.int .i64 a, .int .i64 b, .int .i64 c, .string p] 38 (0, 0))) :
    ∀ (W : World) (x : S48), x ∈ l → Below w.heap.size w W →
    Calls Tryz.prog 36 (#[cV x] ++ #[.pointer (some ⟨B, 0, none⟩)]) W fun e w' => e = .returned (.bool (!cH x a b c p)) ∧ Below w.heap.size w w' := fun W x hx hb => by
  have hBW := (hb.block _ (Array.getElem?_eq_some_iff.1 hB).1).trans hB
  have c4 := cell_of_row hBW
  have hlt : B < W.heap.size := (Array.getElem?_eq_some_iff.1 hBW).1
  have hne : B ≠ W.heap.size := by omega
  have HG := Lib.hid (hG.below hb)
  have HH := Lib.hid (fun W1 (h : Gw W1) => ranges_Comp_has.calls x.f0 x.f1.f0 x.f1.f1 x.f1.f2 x.f1.f3 a b c p (cH x a b c p) W1 h (by unfold ranges_Comp_has.f; rw [if_pos ⟨hl x hx, hp⟩]; rfl))
  have HB := Lib.hid hb
  generalize cH x a b c p = q at HH ⊢
  clear hb hG hBW hB
  show Calls Tryz.prog 36 #[cV x, .pointer (some ⟨B, 0, none⟩)] W _
  go_enter Tryz.func36, Tryz.ntmps36
  go_wp2_with (go_at_call 37; refine (HH.out _ (HG.out.below ((Below.refl _ W).alloc (Nat.le_refl _) _))).mono ?_; rintro e w' ⟨rfl, hb'⟩)
  go_ret
  exact ⟨rfl, HB.out.trans ((((Below.refl _ W).alloc (Nat.le_refl _) _).trans (hb'.mono (by simp))).mono HB.out.size)⟩

theorem has1_pred (B : Nat) (a b c : Int) (p : ByteArray) (hp : tiny p) (r : L2) (hr : tinyR r) (w : World) (hG : Gw w) (hB : w.heap[B]? = some (.cells #[.int .i64 a, .int .i64 b, .int .i64 c, .string p] 38 (0, 0))) :
    ∀ (W : World) (x : L1) (A' : Option Addr) (c' : Nat), x ∈ r → Below w.heap.size w W → x.length ≤ c' → Kd.C k48 W A' x.length x →
    Calls Tryz.prog 34 (#[.slice A' x.length c'] ++ #[.pointer (some ⟨B, 0, none⟩)]) W fun e w' => e = .returned (.bool (x.all (fun y => cH y a b c p))) ∧ Below w.heap.size w w' := fun W x A' c' hx hb hc hC => by
  have hBW := (hb.block _ (Array.getElem?_eq_some_iff.1 hB).1).trans hB
  have e36 : ∀ args w, (callFunc 36 args).run Tryz.prog w = .ok (.enter 36 args) w := enters_of Tryz.func36 (by kernel_rfl) rfl
  have H := contains35 36 #[.pointer (some ⟨B, 0, none⟩)] e36 A' c' x (fun y => !cH y a b c p) W (has11_pred B a b c p hp x (hr x hx) W (hG.below hb) hBW) hC
  rw [any_not] at H
  have HH := Lib.hid H
  have HB := Lib.hid hb
  generalize x.all (fun y => cH y a b c p) = q at HH ⊢
  clear H hb hG hBW hB hC e36
  show Calls Tryz.prog 34 #[.slice A' x.length c', .pointer (some ⟨B, 0, none⟩)] W _
  go_enter Tryz.func34, Tryz.ntmps34
  go_wp2_with (go_at_call 35; refine HH.out.mono ?_; rintro e w' ⟨rfl, hb'⟩)
  go_ret
  exact ⟨by simp, HB.out.trans (hb'.mono HB.out.size)⟩

set_option maxHeartbeats 2000000 in
theorem Has_walk (A : Option Addr) (n : Nat) (r : L2) (a b c : Int) (p : ByteArray) (w : World) (hG : Gw w) (hs : tinyR r) (hp : tiny p) (hC : Kd.C (Kd.slice 48 k48) w A r.length r) :
    Calls Tryz.prog 16 #[.agg #[.slice A r.length n], .agg #[.int .i64 a, .int .i64 b, .int .i64 c, .string p]] w fun e w' => e = .returned (.bool (rangeH r a b c p)) ∧ Below w.heap.size w w' := by
  have e34 : ∀ args w, (callFunc 34 args).run Tryz.prog w = .ok (.enter 34 args) w := enters_of Tryz.func34 (by kernel_rfl) rfl
  have HE := Lib.hid e34
  have HR := Lib.hid (fun W (hb : Below w.heap.size w W) => Right_walk A n r W (hG.below hb) hs (Kd.C_below hC hb))
  have HV := Lib.hid (fun W (hb : Below w.heap.size w W) => semver_Version_Right.calls a b c p (rightB a b c p) W (hG.below hb) (right_some a b c p hp))
  have HP := Lib.hid (fun W (hb : Below w.heap.size w W) (B : Nat) hB => has1_pred B a b c p hp r hs W (hG.below hb) hB)
  have HK := Lib.hid (fun W (hb : Below w.heap.size w W) => Kd.C_below hC hb)
  have HB0 : Hid (Below w.heap.size w ((w.alloc (.cells #[.slice A r.length n] 25)).alloc (.cells #[.int .i64 a, .int .i64 b, .int .i64 c, .string p] 38))) := Lib.hid (((Below.refl _ w).alloc (Nat.le_refl _) _).alloc (by simp) _)
  have hr0 : ((w.alloc (.cells #[.slice A r.length n] 25)).alloc (.cells #[.int .i64 a, .int .i64 b, .int .i64 c, .string p] 38)).heap[w.heap.size]? = some (.cells #[.slice A r.length n] 25 (0, 0)) := (Below.heap_alloc _ _ _ (by simp)).trans (World.alloc_heap_new _ _)
  have hv0 : ((w.alloc (.cells #[.slice A r.length n] 25)).alloc (.cells #[.int .i64 a, .int .i64 b, .int .i64 c, .string p] 38)).heap[w.heap.size + 1]? = some (.cells #[.int .i64 a, .int .i64 b, .int .i64 c, .string p] 38 (0, 0)) := by
    have := World.alloc_heap_new (w.alloc (.cells #[.slice A r.length n] 25)) (.cells #[.int .i64 a, .int .i64 b, .int .i64 c, .string p] 38); rwa [World.size_alloc] at this
  have HR0 := Lib.hid hr0
  have HV0 := Lib.hid hv0
  clear hG hs hp hC e34 hr0 hv0
  unfold rangeH
  generalize rangeR r = q1 at HR ⊢
  generalize rightB a b c p = q2 at HV ⊢
  cases q1 with
  | false =>
    go_enter Tryz.func16, Tryz.ntmps16
    go_wp2_with (go_at_call 20; refine (HR.out _ HB0.out).mono ?_; rintro e w1 ⟨rfl, hb1⟩)
    go_ret
    exact ⟨rfl, HB0.out.trans (hb1.mono HB0.out.size)⟩
  | true =>
    have mk : ∀ w1, Below ((w.alloc (.cells #[.slice A r.length n] 25)).alloc (.cells #[.int .i64 a, .int .i64 b, .int .i64 c, .string p] 38)).heap.size ((w.alloc (.cells #[.slice A r.length n] 25)).alloc (.cells #[.int .i64 a, .int .i64 b, .int .i64 c, .string p] 38)) w1 →
        Aside0 (Below w.heap.size w w1) ∧ Aside0 (w1.heap[w.heap.size]? = some (.cells #[.slice A r.length n] 25 (0, 0))) ∧ Aside0 (w1.heap[w.heap.size + 1]? = some (.cells #[.int .i64 a, .int .i64 b, .int .i64 c, .string p] 38 (0, 0))) := fun w1 hb1 =>
      ⟨⟨HB0.out.trans (hb1.mono HB0.out.size)⟩, ⟨(hb1.block _ (by simp; omega)).trans HR0.out⟩, ⟨(hb1.block _ (by simp)).trans HV0.out⟩⟩
    have MK := Lib.hid mk
    clear mk
    cases q2 with
    | false =>
      go_enter Tryz.func16, Tryz.ntmps16
      go_wp2_with (first | (go_at_call 20; refine (HR.out _ HB0.out).mono ?_; rintro e w1 ⟨rfl, hb1⟩; obtain ⟨B1, R1, V1⟩ := MK.out w1 hb1; have c4 := cell_of_row V1.out; clear hb1) | (go_at_call 18; refine (HV.out _ B1.out).mono ?_; rintro e w2 ⟨rfl, hb2⟩))
      go_ret
      exact ⟨rfl, B1.out.trans (hb2.mono B1.out.size)⟩
    | true =>
      go_enter Tryz.func16, Tryz.ntmps16
      go_wp2_with (first | (go_at_call 20; refine (HR.out _ HB0.out).mono ?_; rintro e w1 ⟨rfl, hb1⟩; obtain ⟨B1, R1, V1⟩ := MK.out w1 hb1; have c4 := cell_of_row V1.out; clear hb1) | (go_at_call 18; refine (HV.out _ B1.out).mono ?_; rintro e w2 ⟨rfl, hb2⟩; have B2 := Aside0.mk (B1.out.trans (hb2.mono B1.out.size)); have R2 := Aside0.mk ((hb2.block _ (Array.getElem?_eq_some_iff.1 R1.out).1).trans R1.out); have V2 := Aside0.mk ((hb2.block _ (Array.getElem?_eq_some_iff.1 V1.out).1).trans V1.out); have c5 := cell_of_one R2.out; clear hb2) | (go_at_call 33; refine (contains33 34 #[.pointer (some ⟨w.heap.size + 1, 0, none⟩)] HE.out A n r _ _ (HP.out _ B2.out _ V2.out) (HK.out _ B2.out)).mono ?_; rintro e w3 ⟨rfl, hb3⟩))
      go_ret
      exact ⟨rfl, B2.out.trans (hb3.mono B2.out.size)⟩

def ranges_Range_Has.f (r : L2) (a1_0 a1_1 a1_2 : Int) (a1_3 : ByteArray) : Option Bool := if tinyB r = true ∧ tiny a1_3 then some (rangeH r a1_0 a1_1 a1_2 a1_3) else none
theorem ranges_Range_Has.calls (A0 : Option Addr) (c0 : Nat) (l0 : L2) (a1_0 a1_1 a1_2 : Int) (a1_3 : ByteArray) (r : Bool) (w : World) (hr0 : Kd.C (Kd.slice 48 k48) w A0 l0.length l0) (hc0 : l0.length ≤ c0) (hG : Gw w) (h : ranges_Range_Has.f l0 a1_0 a1_1 a1_2 a1_3 = some r) :
    Calls Tryz.prog 16 #[.agg #[.slice A0 l0.length c0], .agg #[.int .i64 a1_0, .int .i64 a1_1, .int .i64 a1_2, .string a1_3]] w fun e w' => e = .returned (.bool r) ∧ Below w.heap.size w w' := by
  unfold ranges_Range_Has.f at h
  split at h
  · rename_i hs
    obtain rfl := Option.some.inj h
    exact Has_walk A0 c0 l0 a1_0 a1_1 a1_2 a1_3 w hG (tinyB_iff.1 hs.1) hs.2 hr0
  · cases h
end Go.Proofs.YtckeeefeiljamaaGreatDoor
set_option linter.unusedSimpArgs false
set_option linter.unusedVariables false
namespace Go.Proofs.YtckeeefeiljamaaGreatDoorW.PrintWords
open Go Go.RowKit
section
variable {F : Fence} {n : Nat} {P : Program} {ops : Array Oper} {rest : List Oper} {o : Oper} {a : Act} {Q : Exit → Act → World → Prop} {α : Type}
theorem append_cellsIn {W : World} (base : Nat) (hgd : o.guard = none) (s x : Operand) (t e : TypeId) (z : Value) (size bytes : Nat)
    (ho : o.op = .call { callee := .builtin .append, args := #[s, x], argTypes := #[t, t] })
    (ht : P.underlying t = some (.slice e)) (hinfo : (P.info? e).map (fun i => (i.zero, i.size, i.bytes)) = some (some z, size, bytes)) (hz : z.cells.size = size) (hs0 : 0 < size) (hb0 : 0 < bytes)
    (v : Value) (k : Nat) (xs ys : List Value) (hs : a.eval s = v) (hx : a.eval x = .slice (some ⟨W.heap.size, 0, none⟩) 1 1) (hys : ys.length = size) (h1 : ∀ u ∈ ys, u.oneCell' = true)
    (HO : W.ownsRow base e size v k xs) (hbase : base ≤ W.heap.size) (hl : (k + 1) * bytes ≤ 140737488355328)
    (h : ∀ v1 w1, w1.ownsRow base e size v1 (k + 1) (xs ++ ys) → W.grownBy w1 v.ownBlock → (v1.ownBlock = v.ownBlock ∨ ∃ b, v1.ownBlock = some b ∧ W.heap.size ≤ b) → wpListIn F n P ops Q rest (a.put o.dst v1) w1) :
    wpListIn F n P ops Q (o :: rest) a (W.alloc (.cells ys.toArray e)) := by
  obtain ⟨i0, hi, hzz⟩ := Option.map_eq_some_iff.1 hinfo
  simp only [Prod.mk.injEq] at hzz
  obtain ⟨hz0, hz1, hz2⟩ := hzz
  have hlen : k + 1 ≤ 140737488355328 := Nat.le_trans (Nat.le_mul_of_pos_right _ hb0) hl
  obtain ⟨v1, w1, hrun, hown, hg, _, hat⟩ := run_append_own_at (P := P) (W.alloc (.cells ys.toArray e)) base t o.type e i0 z size bytes ht hi hz0 hz1 hz2 hz hs0 v k xs (HO.alloc _) ⟨W.heap.size, 0, none⟩ 1 1 ys (by rw [hys]; simp)
    (by simpa using World.news_of_block (cs := ys.toArray) (t := e) (fr := (0, 0)) (heap_alloc_new W (.cells ys.toArray e))) h1 (by simp only [maxLen]; omega) hl (by simp; omega)
  refine wpListIn_plain hgd fun K hK' => ?_
  unfold Oper.wpIn
  refine ⟨?_, ?_⟩
  · simp [Oper.about, ho, resolve, Target.leads, Sem.run_pure]
  · rw [Oper.semAt_plain F _ _ (by rw [ho]; intro c hc'; cases hc')]
    simp [execOp, ho, resolve, invoke, builtin, hs, hx, hrun, Result.andThen]
    refine hK' _ _ (h v1 w1 hown (World.grownBy.trans (World.grownBy_alloc W _ _) hg) ?_)
    rcases hat with hat | hat
    · exact .inl hat
    · exact .inr ⟨_, hat, by simp⟩
namespace Kd
theorem R_appendIn (d : Kd α) {W : World} (base : Nat) (hgd : o.guard = none) (s x : Operand) (t e : TypeId) (z : Value) (bytes : Nat)
    (ho : o.op = .call { callee := .builtin .append, args := #[s, x], argTypes := #[t, t] })
    (ht : P.underlying t = some (.slice e)) (hinfo : (P.info? e).map (fun i => (i.zero, i.size, i.bytes)) = some (some z, d.sz, bytes)) (hz : z.cells.size = d.sz) (hs0 : 0 < d.sz) (hb0 : 0 < bytes)
    (v : Value) (xs : List α) (p : α) (cs : List Value) (ok okp : Nat → Prop) (hs : a.eval s = v) (hx : a.eval x = .slice (some ⟨W.heap.size, 0, none⟩) 1 1) (hp : d.M W base okp p cs) (hokp : ∀ k, okp k → ok k ∧ some k ≠ v.ownBlock) (hfresh : ∀ k, W.heap.size ≤ k → ok k)
    (HO : d.R e W base ok v xs) (hbase : base ≤ W.heap.size) (hl : (xs.length + 1) * bytes ≤ 140737488355328)
    (h : ∀ v1 w1, d.R e w1 base ok v1 (xs ++ [p]) → W.grownBy w1 v.ownBlock → (v1.ownBlock = v.ownBlock ∨ ∃ b, v1.ownBlock = some b ∧ W.heap.size ≤ b) → wpListIn F n P ops Q rest (a.put o.dst v1) w1) :
    wpListIn F n P ops Q (o :: rest) a (W.alloc (.cells cs.toArray e)) := by
  obtain ⟨h0, inner, hown, hr⟩ := HO
  refine append_cellsIn base hgd s x t e z d.sz bytes ho ht hinfo hz hs0 hb0 v xs.length inner cs hs hx (d.K_len (d.K_of_M hp)) (d.K_one (d.K_of_M hp)) hown hbase hl ?_
  intro v1 w1 hown1 hg1 hat1
  exact h v1 w1 (R_appended h0 hr hp hokp hfresh hown1 hg1 hat1) hg1 hat1
theorem S_appendIn (d : Kd α) {W : World} (base : Nat) (hgd : o.guard = none) (s x : Operand) (t e : TypeId) (z : Value) (bytes : Nat)
    (ho : o.op = .call { callee := .builtin .append, args := #[s, x], argTypes := #[t, t] })
    (ht : P.underlying t = some (.slice e)) (hinfo : (P.info? e).map (fun i => (i.zero, i.size, i.bytes)) = some (some z, d.sz, bytes)) (hz : z.cells.size = d.sz) (hs0 : 0 < d.sz) (hb0 : 0 < bytes)
    (v : Value) (xs : List α) (p : α) (cs : List Value) (ok okp : Nat → Prop) (hs : a.eval s = v) (hx : a.eval x = .slice (some ⟨W.heap.size, 0, none⟩) 1 1) (hp : d.M W base okp p cs) (hokp : ∀ k, okp k → ok k ∧ some k ≠ v.ownBlock) (hfresh : ∀ k, W.heap.size ≤ k → ok k)
    (HO : S d e W base (fun k => ok k ∧ ¬ okp k) v xs) (hbase : base ≤ W.heap.size) (hl : (xs.length + 1) * bytes ≤ 140737488355328)
    (h : ∀ v1 w1, S d e w1 base ok v1 (xs ++ [p]) → W.grownBy w1 v.ownBlock → (v1.ownBlock = v.ownBlock ∨ ∃ b, v1.ownBlock = some b ∧ W.heap.size ≤ b) → wpListIn F n P ops Q rest (a.put o.dst v1) w1) :
    wpListIn F n P ops Q (o :: rest) a (W.alloc (.cells cs.toArray e)) := by
  obtain ⟨f, hf, hR⟩ := S_tag HO xs.length okp (fun _ hk h2 => h2.2 hk)
  refine R_appendIn (tag f d) base hgd s x t e z bytes ho ht hinfo hz hs0 hb0 v xs.zipIdx (p, xs.length) cs ok okp hs hx (d.M_mono (fun k hk => ⟨hk, hf k hk⟩) hp) hokp hfresh (R_mono hR (fun _ hk => hk.1)) hbase (by rw [List.length_zipIdx]; exact hl) ?_
  intro v1 w1 hr
  rw [← zip_snoc] at hr
  exact h v1 w1 ⟨f, hr⟩
end Kd
end
end Go.Proofs.YtckeeefeiljamaaGreatDoorW.PrintWords
namespace Go.Proofs.YtckeeefeiljamaaGreatDoor
open Go.RowKit Go.Lib Go.Shelf Go.Proofs.YtckeeefeiljamaaGreatDoorW.PrintWords PRan

/-! What ranges.Parse reads. -/
def bar : ByteArray := ⟨#[32, 124, 124, 32]⟩
def blank : ByteArray := ⟨#[32]⟩
def compOk (t : ByteArray) : Bool := (compV t).2.2.2.2.2
def compS (t : ByteArray) : S48 := ⟨(compV t).1, ⟨(compV t).2.1, (compV t).2.2.1, (compV t).2.2.2.1, (compV t).2.2.2.2.1⟩⟩
def altOk (t : ByteArray) : Bool := (pieces blank t).all compOk
def altL (t : ByteArray) : L1 := (pieces blank t).map compS
def partsOk (s : ByteArray) : Bool := (pieces bar s).all altOk
def rangeL (s : ByteArray) : L2 := (pieces bar s).map altL
def parseR (s : ByteArray) : L2 × Int := if (partsOk s && rangeR (rangeL s)) = true then (rangeL s, 0) else ([], 10)

theorem pieces_lens (sep : ByteArray) (h1 : 1 ≤ sep.size) : ∀ (n : Nat) (s : ByteArray), s.size = n → (pieces sep s).length ≤ n + 1 ∧ ∀ p ∈ pieces sep s, p.size ≤ n := by
  intro n
  induction n using Nat.strongRecOn with
  | _ n ih =>
    intro s hs
    by_cases hi : Lib.indexB s sep = -1
    · rw [pieces_miss sep s hi]
      exact ⟨by simp, by simp [hs]⟩
    · obtain ⟨i, hi', hib⟩ : ∃ i : Nat, Lib.indexB s sep = i ∧ i + sep.size ≤ s.size := (Lib.indexB_cases s sep).resolve_left hi
      rw [pieces_hit sep s h1 i hi']
      have hz : (s.extract (i + sep.size) s.size).size = n - (i + sep.size) := by rw [ByteArray.size_extract]; omega
      obtain ⟨a, b⟩ := ih (n - (i + sep.size)) (by omega) _ hz
      refine ⟨by rw [List.length_cons]; omega, ?_⟩
      intro p hp
      rcases List.mem_cons.1 hp with rfl | hp
      · rw [ByteArray.size_extract]; omega
      · have := b p hp; omega
theorem parseV_pre (s : ByteArray) : (parseV s).2.2.2.1.size ≤ s.size := by
  unfold parseV
  simp only
  split
  · exact Nat.zero_le _
  · rw [toBytes_size, ← data_length]; exact (cut_le _ _).2
theorem compS_pre (t : ByteArray) : (compS t).f1.f3.size ≤ t.size := by
  show (compV t).2.2.2.2.1.size ≤ t.size
  unfold compV
  split
  · exact Nat.zero_le _
  · unfold compE
    split
    · exact Nat.zero_le _
    · have := parseV_pre (t.extract (sg (opV t).toNat).size t.size)
      rw [ByteArray.size_extract] at this
      simp only
      omega
theorem rangeL_tiny (s : ByteArray) (hs : tiny s) : tinyR (rangeL s) := by
  intro l hl x hx
  obtain ⟨alt, ha, rfl⟩ := List.mem_map.1 hl
  obtain ⟨t, ht, rfl⟩ := List.mem_map.1 hx
  have h1 := (pieces_lens bar (by decide) _ s rfl).2 alt ha
  have h2 := (pieces_lens blank (by decide) _ alt rfl).2 t ht
  have h3 := compS_pre t
  show _ ≤ 1000
  omega
theorem allOk_bad {s : ByteArray} (h : partsOk s = false) : parseR s = ([], 10) := by unfold parseR; rw [h]; rfl
end Go.Proofs.YtckeeefeiljamaaGreatDoor
set_option linter.unusedSimpArgs false
set_option linter.unusedVariables false
namespace Go.Proofs.YtckeeefeiljamaaGreatDoor
open Go.RowKit Go.Lib Go.Shelf Go.Proofs.Cuts Go.Proofs.YtckeeefeiljamaaGreatDoorW.PrintWords PRan
attribute [local go_sem] Oper.semAt_some

abbrev nilV : Value := .slice none 0 0
abbrev okF (b : Nat) : Nat → Prop := fun k => b ≤ k
/-- Between two rounds of the outer loop: k lists have been read. -/
structure PI (s : ByteArray) (w : World) (k : Nat) (W : World) : Prop where
  ok : ((pieces bar s).take k).all altOk = true
  r0 : W.heap[w.heap.size]? = some (.cells #[nilV] 25 (0, 0))
  r1 : W.heap[w.heap.size + 1]? = some (.cells #[.int .i64 0] 26 (0, 0))
  r2 : ∃ v, W.heap[w.heap.size + 2]? = some (.cells #[v] 25 (0, 0)) ∧ Kd.S (Kd.slice 48 k48) 46 W (w.heap.size + 6) (okF (w.heap.size + 6)) v (((pieces bar s).take k).map altL)
  bel : Below w.heap.size w W
/-- A comparison was none. -/
structure PX (s : ByteArray) (w : World) (W : World) : Prop where
  no : partsOk s = false
  r0 : W.heap[w.heap.size]? = some (.cells #[nilV] 25 (0, 0))
  r1 : W.heap[w.heap.size + 1]? = some (.cells #[.int .i64 10] 26 (0, 0))
  bel : Below w.heap.size w W
/-- Between two rounds of the inner loop (V: the world at the outer round's begin). -/
structure PJ (alt : ByteArray) (V : World) (k : Nat) (W : World) : Prop where
  ok : ((pieces blank alt).take k).all compOk = true
  l : ∃ v, W.heap[V.heap.size]? = some (.cells #[v] 46 (0, 0)) ∧ Kd.R k48 48 W (V.heap.size + 4) (okF (V.heap.size + 4)) v (((pieces blank alt).take k).map compS)
  bel : Below V.heap.size V W
theorem harm_S {α : Type} {d : Kd α} {e base b E : Nat} {ok : Nat → Prop} {W W' : World} {v : Value} {xs : List α} (h : Harm b E W W') (hs : Kd.S d e W base ok v xs) (hb : ∀ k, ok k → k ≠ b) : Kd.S d e W' base ok v xs :=
  Kd.S_mono (Kd.S_step (Kd.S_bound hs) (fun k hk hlt => by
    obtain ⟨h1, _, _, q, hq, cells, hc⟩ := hk
    exact (harm_block h hc (hb k h1) rfl).trans hc.symm)) (fun _ hk => hk.1)
theorem harm_R {α : Type} {d : Kd α} {e base b E : Nat} {ok : Nat → Prop} {W W' : World} {v : Value} {xs : List α} (h : Harm b E W W') (hs : Kd.R d e W base ok v xs) (hb : ∀ k, ok k → k ≠ b) : Kd.R d e W' base ok v xs :=
  Kd.R_mono (Kd.R_step (Kd.R_bound hs) (fun k hk hlt => by
    obtain ⟨h1, _, _, q, hq, cells, hc⟩ := hk
    exact (harm_block h hc (hb k h1) rfl).trans hc.symm)) (fun _ hk => hk.1)
theorem PI.hold {s : ByteArray} {w : World} {k : Nat} {W W' : World} (h : PI s w k W) (hh : Harm (w.heap.size + 3) (w.heap.size + 6) W W') : PI s w k W' := by
  obtain ⟨v, hv, hS⟩ := h.r2
  exact ⟨h.ok, harm_block hh h.r0 (by omega) rfl, harm_block hh h.r1 (by omega) rfl, ⟨v, harm_block hh hv (by omega) rfl, harm_S hh hS (fun k hk => by have : w.heap.size + 6 ≤ k := hk; omega)⟩, harm_below hh h.bel h.bel.size (by omega) (by omega)⟩
theorem PX.hold {s : ByteArray} {w : World} {W W' : World} (h : PX s w W) (hh : Harm (w.heap.size + 3) (w.heap.size + 6) W W') : PX s w W' :=
  ⟨h.no, harm_block hh h.r0 (by omega) rfl, harm_block hh h.r1 (by omega) rfl, harm_below hh h.bel h.bel.size (by omega) (by omega)⟩
theorem PJ.hold {alt : ByteArray} {V : World} {k : Nat} {W W' : World} (h : PJ alt V k W) (hh : Harm (V.heap.size + 1) (V.heap.size + 4) W W') : PJ alt V k W' := by
  obtain ⟨v, hv, hR⟩ := h.l
  exact ⟨h.ok, ⟨v, harm_block hh hv (by omega) rfl, harm_R hh hR (fun k hk => by have : V.heap.size + 4 ≤ k := hk; omega)⟩, harm_below hh h.bel h.bel.size (by omega) (by omega)⟩
theorem R_sl {α : Type} {d : Kd α} {e base : Nat} {ok : Nat → Prop} {W : World} {v : Value} {xs : List α} (h : Kd.R d e W base ok v xs) : ∃ A m c, v = .slice A m c := by
  obtain ⟨A, c, rfl⟩ := Kd.R_slice h
  exact ⟨A, _, c, rfl⟩
/-- What Parse hands back. -/
def RParsePost (w : World) (r : L2 × Int) (e : Ending) (w' : World) : Prop :=
  ∃ v, e = .returned (.tuple #[.agg #[v], .int .i64 r.2]) ∧ Kd.S (Kd.slice 48 k48) 46 w' w.heap.size (fun _ => True) v r.1 ∧ Below w.heap.size w w'

set_option maxHeartbeats 4000000 in
set_option maxRecDepth 100000 in
theorem RParse_walk (s : ByteArray) (hs : tiny s) (w : World) (hG : Gw w) : Calls Tryz.prog 12 #[.string s] w (RParsePost w (parseR s)) := by
  refine (callsIn_wide (n := 20)).1 ?_
  refine callsIn_of_wp_marks Tryz.func12 rfl trivial ?_ rfl
  simp only [Tryz.ntmps12, List.size_toArray, List.length_cons, List.length_nil, Nat.reduceAdd, Nat.reduceSub, Array.replicate_succ, Array.replicate_zero, List.push_toArray, List.append_toArray, List.nil_append, List.cons_append]
  have HG := Lib.hid hG
  have hbig := hG.big
  clear hG
  gi_wp2_with fail
  refine ⟨trivial, (callsIn_wide.2 (SplitSeq_any s bar _)).mono ?_⟩
  rintro e w' ⟨rfl, rfl⟩
  gi_wp2_with fail
  have hbel0 : Below w.heap.size w (((w.alloc (.cells #[nilV] 25)).alloc (.cells #[.int .i64 0] 26)).alloc (.cells #[nilV] 25)) := (((Below.refl _ w).alloc (Nat.le_refl _) _).alloc (by simp) _).alloc (by simp; omega) _
  have hz : (((w.alloc (.cells #[nilV] 25)).alloc (.cells #[.int .i64 0] 26)).alloc (.cells #[nilV] 25)).heap.size = w.heap.size + 3 := by simp
  have hq0 : (((w.alloc (.cells #[nilV] 25)).alloc (.cells #[.int .i64 0] 26)).alloc (.cells #[nilV] 25)).heap[w.heap.size]? = some (.cells #[nilV] 25 (0, 0)) := by
    rw [Below.heap_alloc _ _ _ (by simp; omega), Below.heap_alloc _ _ _ (by simp)]; exact World.alloc_heap_new _ _
  have hq1 : (((w.alloc (.cells #[nilV] 25)).alloc (.cells #[.int .i64 0] 26)).alloc (.cells #[nilV] 25)).heap[w.heap.size + 1]? = some (.cells #[.int .i64 0] 26 (0, 0)) := by
    rw [Below.heap_alloc _ _ _ (by simp)]; have := World.alloc_heap_new (w.alloc (.cells #[nilV] 25)) (.cells #[.int .i64 0] 26); rwa [World.size_alloc] at this
  have hq2 : (((w.alloc (.cells #[nilV] 25)).alloc (.cells #[.int .i64 0] 26)).alloc (.cells #[nilV] 25)).heap[w.heap.size + 2]? = some (.cells #[nilV] 25 (0, 0)) := by
    have := World.alloc_heap_new ((w.alloc (.cells #[nilV] 25)).alloc (.cells #[.int .i64 0] 26)) (.cells #[nilV] 25); rwa [World.size_alloc, World.size_alloc] at this
  generalize hW0 : ((w.alloc (.cells #[nilV] 25)).alloc (.cells #[.int .i64 0] 26)).alloc (.cells #[nilV] 25) = W0 at *
  have hit := split_Iter 19 (by omega) s bar (by omega) (by decide) W0 (HG.out.below hbel0)
  obtain ⟨a0, a1, a2, az⟩ := seqW_at s bar W0
  have hbW : Below W0.heap.size W0 (seqW s bar W0) := (((Below.refl _ W0).alloc (Nat.le_refl _) _).alloc (by simp) _).alloc (by simp; omega) _
  rw [hz] at hit a0 a1 a2 az hbW
  refine range_cuts rfl (by omega) (gf := 73) (lb := seqB (w.heap.size + 3)) rfl trivial (enters_of Tryz.func73 (by kernel_rfl) rfl) (L := 6) (B := w.heap.size + 3) (by rw [az]; omega)
    hit rfl
    (fun k W => PI s w k W) (fun c k W => c = .ret ∧ PX s w W)
    ?hI ?hIx ?h0 (fun v => { tmps := #[.string s, undef, .pointer (some ⟨w.heap.size, 0, none⟩), .pointer (some ⟨w.heap.size + 1, 0, none⟩), .pointer (some ⟨w.heap.size + 2, 0, none⟩), v, undef, undef, undef, undef, .string s, seqV (w.heap.size + 3), v, undef, undef, undef, undef, undef, undef, undef, undef, undef, undef, undef, undef, undef, undef, undef, undef, undef, undef, undef, undef, undef, undef, undef, undef, undef, undef], defers := [] }) ?assign ?body ?done ?stop
  case hI =>
    intro k W W' h hh
    rw [az] at hh
    exact h.hold hh
  case hIx =>
    rintro c k W W' ⟨rfl, h⟩ hh
    rw [az] at hh
    exact ⟨rfl, h.hold hh⟩
  case h0 =>
    exact ⟨rfl, (hbW.block _ (by omega)).trans hq0, (hbW.block _ (by omega)).trans hq1, ⟨nilV, (hbW.block _ (by omega)).trans hq2, Kd.S_nil _ _ _ _ _⟩, hbel0.trans (hbW.mono (by omega))⟩
  case assign =>
    intro l v W K hK
    gi_wp2
    exact hK
  case body =>
    rintro l k v W hI hv hsz hl ⟨rc, hrc⟩
    rw [az] at hsz hl
    obtain ⟨alt, rfl, hp⟩ : ∃ p, v = .string p ∧ (pieces bar s)[k]? = some p := by
      rw [List.getElem?_map] at hv
      obtain ⟨p, h1, h2⟩ := Option.map_eq_some_iff.1 hv
      exact ⟨p, h2.symm, h1⟩
    have halt : tiny alt := Nat.le_trans ((pieces_lens bar (by decide) _ s rfl).2 alt (List.mem_of_getElem? hp)) hs
    have hlen : k < (pieces bar s).length := (List.getElem?_eq_some_iff.1 hp).1
    have hll := (pieces_lens bar (by decide) _ s rfl).1
    have hli := (pieces_lens blank (by decide) _ alt rfl).1
    have HI := Lib.hid hI
    have HP := Lib.hid hp
    clear hI hv hp hq0 hq1 hq2 a0 a1 a2 hit hbW hbel0 hW0 hz
    gi_wp2_with fail
    refine ⟨trivial, (CallsIn.inRound l (callsIn_wide.2 (SplitSeq_any alt blank _))).mono ?_⟩
    rintro e w' ⟨rfl, rfl⟩
    gi_wp2_with fail
    have hV1 : Below W.heap.size W (W.alloc (.cells #[nilV] 46)) := (Below.refl _ W).alloc (Nat.le_refl _) _
    have hz1 : (W.alloc (.cells #[nilV] 46)).heap.size = W.heap.size + 1 := by simp
    have hl1 : (W.alloc (.cells #[nilV] 46)).heap[W.heap.size]? = some (.cells #[nilV] 46 (0, 0)) := World.alloc_heap_new _ _
    generalize hW1 : W.alloc (.cells #[nilV] 46) = W1 at *
    have hit2 := split_Iter 17 (by omega) alt blank (by omega) (by decide) W1 (HG.out.below (HI.out.bel.trans (hV1.mono HI.out.bel.size)))
    obtain ⟨c0, c1, c2, cz⟩ := seqW_at alt blank W1
    have hbV : Below W1.heap.size W1 (seqW alt blank W1) := (((Below.refl _ W1).alloc (Nat.le_refl _) _).alloc (by simp) _).alloc (by simp; omega) _
    have hVb : Below W.heap.size W (seqW alt blank W1) := hV1.trans (hbV.mono hV1.size)
    rw [hz1] at hit2 c0 c1 c2 cz hbV
    have hrc' : (seqW alt blank W1).heap[l]? = some (.loop rc) := (hVb.block _ (Array.getElem?_eq_some_iff.1 hrc).1).trans hrc
    refine range_cutsN (l₀ := l) (r₀ := rc) rfl hrc' (by omega) (gf := 73) (lb := seqB (W.heap.size + 1)) rfl trivial (enters_of Tryz.func73 (by kernel_rfl) rfl) (L := 6) (B := W.heap.size + 1) (by rw [cz]; omega)
      (Iter.inRound l hit2) rfl
      (fun j W2 => PJ alt W j W2) (fun c j W2 => c = .ret ∧ PX s w W2 ∧ Keeps 6 (w.heap.size + 3) W W2)
      ?jI ?jIx ?j0 (fun v => { tmps := #[.string s, undef, .pointer (some ⟨w.heap.size, 0, none⟩), .pointer (some ⟨w.heap.size + 1, 0, none⟩), .pointer (some ⟨w.heap.size + 2, 0, none⟩), .string alt, .pointer (some ⟨W.heap.size, 0, none⟩), v, undef, undef, .string s, seqV (w.heap.size + 3), .string alt, .string alt, seqV (W.heap.size + 1), v, undef, undef, undef, undef, undef, undef, undef, undef, undef, undef, undef, undef, undef, undef, undef, undef, undef, undef, undef, undef, undef, undef, undef], defers := [] }) ?jassign ?jbody ?jdone ?jstop
    case jI =>
      intro j W2 W' h hh
      rw [cz] at hh
      exact h.hold hh
    case jIx =>
      rintro c j W2 W' ⟨rfl, h, hk⟩ hh
      rw [cz] at hh
      have hws : W.heap.size ≤ W2.heap.size := hk.size
      refine ⟨rfl, ⟨h.no, harm_block hh h.r0 (by omega) rfl, harm_block hh h.r1 (by omega) rfl, harm_below hh h.bel h.bel.size (by omega) (by omega)⟩, ?_⟩
      obtain ⟨row, hg, hrow⟩ := hh
      refine ⟨Nat.le_trans hk.size hg.size, fun r hb hr => (hg.block r (Nat.lt_of_lt_of_le hr hk.size) (fun e => ?_)).trans (hk.block r hb hr)⟩
      rcases hrow r e.symm with e1 | ⟨e1, _⟩ <;> omega
    case j0 =>
      exact ⟨rfl, ⟨nilV, (hbV.block _ (by omega)).trans hl1, Kd.R_nil _ _ _ _ _⟩, hVb⟩
    case jassign =>
      intro l2 v W2 K hK
      gi_wp2
      exact hK
    case jbody =>
      rintro l2 j v W2 hJ hv hsz2 - -
      rw [cz] at hsz2
      obtain ⟨t, rfl, ht⟩ : ∃ p, v = .string p ∧ (pieces blank alt)[j]? = some p := by
        rw [List.getElem?_map] at hv
        obtain ⟨p, h1, h2⟩ := Option.map_eq_some_iff.1 hv
        exact ⟨p, h2.symm, h1⟩
      have htt : tiny t := Nat.le_trans ((pieces_lens blank (by decide) _ alt rfl).2 t (List.mem_of_getElem? ht)) halt
      have HJ := Lib.hid hJ
      have HT := Lib.hid ht
      have hbel2 : Below w.heap.size w W2 := HI.out.bel.trans (hJ.bel.mono HI.out.bel.size)
      clear hv hJ ht c0 c1 c2 hit2 hbV hVb hV1 hl1 hz1 hW1 hrc hrc'
      have HC := Lib.hid (ranges_comp.calls t (compV t).1 (compV t).2.1 (compV t).2.2.1 (compV t).2.2.2.1 (compV t).2.2.2.2.1 (compV t).2.2.2.2.2 W2 (HG.out.below hbel2) (by unfold ranges_comp.f; rw [if_pos htt]))
      gi_wp2_with fail
      refine ⟨trivial, (CallsIn.inRound l2 (callsIn_wide.2 HC.out)).mono ?_⟩
      rintro e W3 ⟨rfl, hb3⟩
      have hok : compOk t = (compV t).2.2.2.2.2 := rfl
      have hcs : compS t = ⟨(compV t).1, ⟨(compV t).2.1, (compV t).2.2.1, (compV t).2.2.2.1, (compV t).2.2.2.2.1⟩⟩ := rfl
      have HB3 := Lib.hid hb3
      have HJ3 : Hid (PJ alt W j W3) := Lib.hid (by
        obtain ⟨v, hv, hR⟩ := HJ.out.l
        exact ⟨HJ.out.ok, ⟨v, (hb3.block _ (Array.getElem?_eq_some_iff.1 hv).1).trans hv, Kd.R_below hR hb3⟩, HJ.out.bel.trans (hb3.mono HJ.out.bel.size)⟩)
      clear hb3 HC
      generalize (compV t).1 = q0 at *
      generalize (compV t).2.1 = q1 at *
      generalize (compV t).2.2.1 = q2 at *
      generalize (compV t).2.2.2.1 = q3 at *
      generalize (compV t).2.2.2.2.1 = q4 at *
      generalize (compV t).2.2.2.2.2 = q5 at *
      have HOK := Lib.hid hok
      have HCS := Lib.hid hcs
      clear hok hcs
      obtain ⟨vl, hvl, hRl⟩ := HJ3.out.l
      have cl := cell_of_one hvl
      have fl := free_of_one hvl
      have hVsz : W.heap.size + 4 ≤ W3.heap.size := by have := HB3.out.size; omega
      have HVL := Lib.hid hvl
      have HRL := Lib.hid hRl
      clear hvl hRl
      cases q5 with
      | true =>
        have hne : W.heap.size ≠ W3.heap.size := by omega
        have hba : Below W3.heap.size W3 (W3.alloc (.cells #[.int .i64 q0, .int .i64 q1, .int .i64 q2, .int .i64 q3, .string q4] 48)) := (Below.refl _ W3).alloc (Nat.le_refl _) _
        have ca := (hba.cell (p := ⟨W.heap.size, 0, none⟩) (by show W.heap.size < _; omega)).trans cl
        have HBA := Lib.hid hba
        clear hba cl fl
        have hll2 : (((pieces blank alt).take j).map compS).length ≤ 1001 := by rw [List.length_map, List.length_take]; omega
        have hxs : Hid (((pieces blank alt).take (j + 1)).map compS = ((pieces blank alt).take j).map compS ++ [compS t]) := Lib.hid (by
          rw [List.take_add_one, HT.out, List.map_append]; rfl)
        have HPM := Lib.hid (k48_mkM (W3.alloc (.cells #[.int .i64 q0, .int .i64 q1, .int .i64 q2, .int .i64 q3, .string q4] 48)) (W.heap.size + 4) (fun _ => False) (compS t))
        rw [HCS.out] at HPM
        have HR5 := Lib.hid (Kd.R_below HRL.out HBA.out)
        gi_wp2_with (gi_at_builtin; refine Kd.R_appendIn k48 (W := W3.alloc (.cells #[.int .i64 q0, .int .i64 q1, .int .i64 q2, .int .i64 q3, .string q4] 48)) (W.heap.size + 4) rfl (.tmp 24) (.tmp 26) 46 48 (.agg #[(.int .i64 0), (.int .i64 0), (.int .i64 0), (.int .i64 0), (.string ⟨#[]⟩)]) 48 rfl Tryz.underlying46 info48 rfl (by decide) (by omega) vl (((pieces blank alt).take j).map compS) ⟨q0, ⟨q1, q2, q3, q4⟩⟩ [.int .i64 q0, .int .i64 q1, .int .i64 q2, .int .i64 q3, .string q4] (okF (W.heap.size + 4)) (fun _ => False) rfl (by rw [World.size_alloc]; rfl) HPM.out (fun _ hk => hk.elim) (fun k hk => Nat.le_trans (Nat.le_trans hVsz HBA.out.size) hk) HR5.out (Nat.le_trans hVsz HBA.out.size) (by omega) ?_; intro v1 w1 hr1 hg1 hat1; have hv1 : w1.heap[W.heap.size]? = some (.cells #[vl] 46 (0, 0)) := ((hg1.block W.heap.size (by simp; omega) (fun e => by have := Kd.R_base HRL.out W.heap.size e.symm; omega)).trans (HBA.out.block W.heap.size (by omega))).trans HVL.out; have c1 := cell_of_one hv1; have f1 := free_of_one hv1; have HV1 := Lib.hid hv1; have HR1 := Lib.hid hr1; have HG1 := Lib.hid hg1; clear hv1 hr1 hg1 hat1; obtain ⟨A1, m1, n1, rfl⟩ := R_sl HR1.out)
        have hty := Kd.R_typed HR5.out
        have hba5 := Kd.R_base HRL.out
        have b1 : Below W.heap.size W w1 := (HJ3.out.bel.trans (HBA.out.mono (by omega))).grown HG1.out (by have := HJ3.out.bel.size; simp; omega) (fun k e => by have := hba5 k e; omega)
        refine ⟨((Keeps.below HB3.out).trans (Keeps.below HBA.out)).trans ((Keeps.grown HG1.out (fun r e => ?_)).trans (Keeps.setCell _ _ _ (by show 6 ≤ W.heap.size; omega) (.inl (by show W.heap.size < _; omega)))), ?_⟩
        · obtain ⟨cells, hc⟩ := hty r e
          have := hba5 r e
          exact ⟨by omega, .inr (by omega), _, hc, rfl⟩
        · refine ⟨?_, ⟨_, one_setCell HV1.out, ?_⟩, b1.setCell (p := ⟨W.heap.size, 0, none⟩) (Nat.le_refl _) _⟩
          · rw [List.take_add_one, HT.out, List.all_append, HJ3.out.ok]
            simp [HOK.out]
          · rw [hxs.out, HCS.out]
            exact Kd.R_far (p := ⟨W.heap.size, 0, none⟩) HR1.out (fun k hk => by have : W.heap.size + 4 ≤ k := hk; show k ≠ W.heap.size; omega) _
      | false =>
        have hno : Hid (partsOk s = false) := Lib.hid (by
          rw [← Bool.not_eq_true]
          unfold partsOk
          rw [List.all_eq_true]
          intro h
          have h1 := h alt (List.mem_of_getElem? HP.out)
          unfold altOk at h1
          rw [List.all_eq_true] at h1
          have h2 := h1 t (List.mem_of_getElem? HT.out)
          rw [HOK.out] at h2
          cases h2)
        have hWlt : w.heap.size + 6 ≤ W.heap.size := hsz
        have r0 : W3.heap[w.heap.size]? = some (.cells #[nilV] 25 (0, 0)) := (HJ3.out.bel.block _ (by omega)).trans HI.out.r0
        have r1 : W3.heap[w.heap.size + 1]? = some (.cells #[.int .i64 0] 26 (0, 0)) := (HJ3.out.bel.block _ (by omega)).trans HI.out.r1
        have hba : Below W3.heap.size W3 (W3.alloc (.cells #[.int .i64 q0, .int .i64 q1, .int .i64 q2, .int .i64 q3, .string q4] 48)) := (Below.refl _ W3).alloc (Nat.le_refl _) _
        have r0' := (hba.block w.heap.size (by omega)).trans r0
        have r1' := (hba.block (w.heap.size + 1) (by omega)).trans r1
        have c0 := cell_of_one r0'
        have f0 := free_of_one r0'
        have c1 := cell_of_one r1'
        have f1 := free_of_one r1'
        have R0 := Lib.hid r0'
        have R1 := Lib.hid r1'
        have HBA := Lib.hid hba
        clear r0 r1 r0' r1' hba cl fl
        gi_wp2_with fail
        have hb5 : Below w.heap.size w (W3.alloc (.cells #[.int .i64 q0, .int .i64 q1, .int .i64 q2, .int .i64 q3, .string q4] 48)) := HI.out.bel.trans ((HJ3.out.bel.trans (HBA.out.mono (by omega))).mono HI.out.bel.size)
        refine ⟨((Keeps.below HB3.out).trans (Keeps.below HBA.out)).trans ((Keeps.setCell _ _ _ (by show 6 ≤ w.heap.size; omega) (.inl (by show w.heap.size < _; omega))).trans (Keeps.setCell _ _ _ (by show 6 ≤ w.heap.size + 1; omega) (.inl (by show w.heap.size + 1 < _; omega)))), rfl, ⟨hno.out, ?_, ?_, (hb5.setCell (p := ⟨w.heap.size, 0, none⟩) (Nat.le_refl _) _).setCell (p := ⟨w.heap.size + 1, 0, none⟩) (Nat.le_succ _) _⟩,
          ((Keeps.below HJ3.out.bel).trans (Keeps.below HBA.out)).trans ((Keeps.setCell _ _ _ (by show 6 ≤ w.heap.size; omega) (.inl (by show w.heap.size < _; omega))).trans (Keeps.setCell _ _ _ (by show 6 ≤ w.heap.size + 1; omega) (.inl (by show w.heap.size + 1 < _; omega))))⟩
        · exact (Below.heap_setCell _ ⟨w.heap.size + 1, 0, none⟩ _ _ (by show w.heap.size ≠ w.heap.size + 1; omega)).trans (one_setCell R0.out)
        · exact one_setCell ((Below.heap_setCell _ ⟨w.heap.size, 0, none⟩ _ _ (by show w.heap.size + 1 ≠ w.heap.size; omega)).trans R1.out)
    case jdone =>
      rintro W3 hJ
      rw [List.length_map] at hJ
      obtain ⟨vl, hvl, hRl⟩ := hJ.l
      obtain ⟨v2, hv2, hS2⟩ := HI.out.r2
      obtain ⟨Al, ml, nl, rfl⟩ := R_sl hRl
      obtain ⟨A2, m2, n2, rfl⟩ := R_sl (Kd.S_R hS2)
      have hok := hJ.ok
      rw [List.take_of_length_le (Nat.le_refl _)] at hok hRl
      have HL := Lib.hid (show Kd.R k48 48 W3 (W.heap.size + 4) (okF (W.heap.size + 4)) (.slice Al ml nl) (altL alt) from hRl)
      have HOK := Lib.hid hok
      have HB3 := Lib.hid hJ.bel
      have hv2' := (hJ.bel.block _ (Array.getElem?_eq_some_iff.1 hv2).1).trans hv2
      have cl := cell_of_one hvl
      have c2 := cell_of_one hv2'
      have HV2 := Lib.hid hv2'
      have HS2 := Lib.hid hS2
      have HSO := Lib.hid (Kd.S_mono (Kd.S_old hS2 hJ.bel) (ok' := fun k => okF (w.heap.size + 6) k ∧ ¬ okF (W.heap.size + 4) k) (fun k hk => ⟨hk.1, fun e => by have := hk.2; have : W.heap.size + 4 ≤ k := e; omega⟩))
      have hws := hJ.bel.size
      have hll2 : (((pieces bar s).take k).map altL).length ≤ 1001 := by rw [List.length_map, List.length_take]; omega
      have hxs : Hid (((pieces bar s).take (k + 1)).map altL = ((pieces bar s).take k).map altL ++ [altL alt]) := Lib.hid (by
        rw [List.take_add_one, HP.out, List.map_append]; rfl)
      clear hJ hRl hok hvl hv2 hv2' hS2 c0 c1 hit2 hbV hVb hV1 hl1 hz1 hW1 hrc hrc'
      gi_wp2_with (gi_at_builtin; refine Kd.S_appendIn (Kd.slice 48 k48) (W := W3) (w.heap.size + 6) rfl (.tmp 29) (.tmp 31) 23 46 (.slice none 0 0) 24 rfl Tryz.underlying23 info46 rfl (by decide) (by omega) (.slice A2 m2 n2) (((pieces bar s).take k).map altL) (altL alt) [.slice Al ml nl] (okF (w.heap.size + 6)) (okF (W.heap.size + 4)) rfl rfl ⟨_, rfl, Kd.R_lower HL.out (by omega)⟩ (fun k hk => ⟨by have : W.heap.size + 4 ≤ k := hk; show w.heap.size + 6 ≤ k; omega, fun e => by have h1 := Kd.S_lt HS2.out k e.symm; have : W.heap.size + 4 ≤ k := hk; omega⟩) (fun k hk => by show w.heap.size + 6 ≤ k; omega) HSO.out (by omega) (by omega) ?_; intro v1 w1 hr1 hg1 hat1; have hv1 : w1.heap[w.heap.size + 2]? = some (.cells #[.slice A2 m2 n2] 25 (0, 0)) := (hg1.block _ (by omega) (fun e => by have := Kd.S_base HS2.out _ e.symm; omega)).trans HV2.out; have c1 := cell_of_one hv1; have f1 := free_of_one hv1; have HV1 := Lib.hid hv1; have HR1 := Lib.hid hr1; have HG1 := Lib.hid hg1; clear hv1 hr1 hg1 hat1; obtain ⟨A1, m1, n1, rfl⟩ := R_sl (Kd.S_R HR1.out))
      have hty := Kd.S_typed (Kd.S_below HS2.out HB3.out)
      have hba2 := Kd.S_base HS2.out
      have r0 := (HG1.out.block w.heap.size (by omega) (fun e => by have := hba2 _ e.symm; omega)).trans ((HB3.out.block _ (by omega)).trans HI.out.r0)
      have r1 := (HG1.out.block (w.heap.size + 1) (by omega) (fun e => by have := hba2 _ e.symm; omega)).trans ((HB3.out.block _ (by omega)).trans HI.out.r1)
      have b1 : Below w.heap.size w w1 := (HI.out.bel.trans (HB3.out.mono HI.out.bel.size)).grown HG1.out (by omega) (fun k e => by have := hba2 k e; omega)
      refine ⟨(Keeps.below HB3.out).trans ((Keeps.grown HG1.out (fun r e => ?_)).trans (Keeps.setCell _ _ _ (by show 6 ≤ w.heap.size + 2; omega) (.inl (by show w.heap.size + 2 < _; omega)))), ?_⟩
      · obtain ⟨cells, hc⟩ := hty r e
        have := hba2 r e
        exact ⟨by omega, .inr (by omega), _, hc, rfl⟩
      · refine ⟨?_, (Below.heap_setCell _ ⟨w.heap.size + 2, 0, none⟩ _ _ (by show w.heap.size ≠ w.heap.size + 2; omega)).trans r0, (Below.heap_setCell _ ⟨w.heap.size + 2, 0, none⟩ _ _ (by show w.heap.size + 1 ≠ w.heap.size + 2; omega)).trans r1, ⟨_, one_setCell HV1.out, ?_⟩, b1.setCell (p := ⟨w.heap.size + 2, 0, none⟩) (by show w.heap.size ≤ w.heap.size + 2; omega) _⟩
        · rw [List.take_add_one, HP.out, List.all_append, HI.out.ok]
          simp [altOk, HOK.out]
        · rw [hxs.out]
          exact Kd.S_far (p := ⟨w.heap.size + 2, 0, none⟩) HR1.out (fun k hk => by have : w.heap.size + 6 ≤ k := hk; show k ≠ w.heap.size + 2; omega) _
    case jstop =>
      rintro c j W3 ⟨rfl, hX, hk⟩
      gi_wp2
      exact ⟨hk, rfl, hX⟩
  case done =>
    rintro D W hI hK hD
    rw [List.length_map] at hI
    obtain ⟨v2, hv2, hS2⟩ := hI.r2
    have hok := hI.ok
    rw [List.take_of_length_le (Nat.le_refl _)] at hok hS2
    obtain ⟨A2, m2, n2, rfl⟩ := R_sl (Kd.S_R hS2)
    have HS := Lib.hid (show Kd.S (Kd.slice 48 k48) 46 W (w.heap.size + 6) (okF (w.heap.size + 6)) (.slice A2 m2 n2) (rangeL s) from hS2)
    have hDs : w.heap.size + 6 ≤ D := by rw [az] at hD; omega
    obtain ⟨hm2, hle2, hC2⟩ := Kd.S_reads' HS.out
    have HPO := Lib.hid (show partsOk s = true from hok)
    have c2 := cell_of_one hv2
    have c0 := cell_of_one hI.r0
    have f0 := free_of_one hI.r0
    have c1 := cell_of_one hI.r1
    have f1 := free_of_one hI.r1
    have HI := Lib.hid hI
    have HK := Lib.hid hK
    have HV2 := Lib.hid hv2
    have HRW := Lib.hid (hm2 ▸ Right_walk A2 n2 (rangeL s) W (HG.out.below hI.bel) (rangeL_tiny s hs) hC2 : Calls Tryz.prog 20 #[.agg #[.slice A2 m2 n2]] W fun e w' => e = .returned (.bool (rangeR (rangeL s))) ∧ Below W.heap.size W w')
    have HPR : Hid (parseR s = if rangeR (rangeL s) = true then (rangeL s, 0) else ([], 10)) := Lib.hid (by unfold parseR; rw [HPO.out, Bool.true_and])
    clear hI hv2 hS2 hok hK hD hm2 hle2 hC2 a0 a1 a2 hit hbW hbel0 hW0 hq0 hq1 hq2 hz
    generalize rangeR (rangeL s) = q at HRW HPR
    cases q with
    | true =>
      gi_wp2_with fail
      refine ⟨trivial, (callsIn_wide.2 HRW.out).mono ?_⟩
      rintro e W4 ⟨rfl, hb4⟩
      have r0 := (hb4.block _ (Array.getElem?_eq_some_iff.1 HI.out.r0).1).trans HI.out.r0
      have r1 := (hb4.block _ (Array.getElem?_eq_some_iff.1 HI.out.r1).1).trans HI.out.r1
      have r2 := (hb4.block _ (Array.getElem?_eq_some_iff.1 HV2.out).1).trans HV2.out
      have HK4 := Lib.hid ((hb4.block _ (Array.getElem?_eq_some_iff.1 HK.out).1).trans HK.out)
      have HS4 := Lib.hid (Kd.S_below HS.out hb4)
      have HB4 := Lib.hid (HI.out.bel.trans (hb4.mono HI.out.bel.size))
      have HR0 := Lib.hid r0
      have HR1 := Lib.hid r1
      clear c2 c0 f0 c1 f1 hb4
      have c2 := cell_of_one r2
      have c0 := cell_of_one r0
      have f0 := free_of_one r0
      have c1 := cell_of_one r1
      have f1 := free_of_one r1
      clear r0 r1 r2
      gi_wp2_with fail
      have hK2 : ((W4.setCell ⟨w.heap.size, 0, none⟩ (.slice A2 m2 n2)).setCell ⟨w.heap.size + 1, 0, none⟩ (.int .i64 0)).heap[D]? = some (.deferred (some [])) := (Below.heap_setCell _ ⟨w.heap.size + 1, 0, none⟩ _ _ (by show D ≠ w.heap.size + 1; omega)).trans ((Below.heap_setCell _ ⟨w.heap.size, 0, none⟩ _ _ (by show D ≠ w.heap.size; omega)).trans HK4.out)
      have e0 : (((W4.setCell ⟨w.heap.size, 0, none⟩ (.slice A2 m2 n2)).setCell ⟨w.heap.size + 1, 0, none⟩ (.int .i64 0)).putObj D (.deferred none)).heap[w.heap.size]? = some (.cells #[(.slice A2 m2 n2)] 25 (0, 0)) := (World.putObj_heap_other (by omega)).trans ((Below.heap_setCell _ ⟨w.heap.size + 1, 0, none⟩ _ _ (by show w.heap.size ≠ w.heap.size + 1; omega)).trans (one_setCell HR0.out))
      have e1 : (((W4.setCell ⟨w.heap.size, 0, none⟩ (.slice A2 m2 n2)).setCell ⟨w.heap.size + 1, 0, none⟩ (.int .i64 0)).putObj D (.deferred none)).heap[w.heap.size + 1]? = some (.cells #[.int .i64 0] 26 (0, 0)) := (World.putObj_heap_other (by omega)).trans (one_setCell ((Below.heap_setCell _ ⟨w.heap.size, 0, none⟩ _ _ (by show w.heap.size + 1 ≠ w.heap.size; omega)).trans HR1.out))
      have d0 := cell_of_one e0
      have d1 := cell_of_one e1
      have hh : Harm w.heap.size (w.heap.size + 6) ((W4.setCell ⟨w.heap.size, 0, none⟩ (.slice A2 m2 n2)).setCell ⟨w.heap.size + 1, 0, none⟩ (.int .i64 0)) (((W4.setCell ⟨w.heap.size, 0, none⟩ (.slice A2 m2 n2)).setCell ⟨w.heap.size + 1, 0, none⟩ (.int .i64 0)).putObj D (.deferred none)) := ⟨some D, grownBy_put _ _ _, fun r e => .inr (by cases e; exact ⟨hDs, _, hK2, rfl⟩)⟩
      have hB5 : Below w.heap.size w ((W4.setCell ⟨w.heap.size, 0, none⟩ (.slice A2 m2 n2)).setCell ⟨w.heap.size + 1, 0, none⟩ (.int .i64 0)) := (HB4.out.setCell (p := ⟨w.heap.size, 0, none⟩) (Nat.le_refl _) _).setCell (p := ⟨w.heap.size + 1, 0, none⟩) (Nat.le_succ _) _
      refine ⟨by simp, .inl ⟨_, _, rfl, run_takeDeferred hK2, ?_⟩⟩
      exact ⟨.tuple #[.agg #[.slice A2 m2 n2], .int .i64 0], by simp [results, Tryz.results12, go_sem, d0, d1], by
        rw [HPR.out]
        exact ⟨_, rfl, Kd.S_mono (Kd.S_lower (harm_S hh (Kd.S_far (p := ⟨w.heap.size + 1, 0, none⟩) (Kd.S_far (p := ⟨w.heap.size, 0, none⟩) HS4.out (fun k hk => by have : w.heap.size + 6 ≤ k := hk; show k ≠ w.heap.size; omega) _) (fun k hk => by have : w.heap.size + 6 ≤ k := hk; show k ≠ w.heap.size + 1; omega) _) (fun k hk => by have : w.heap.size + 6 ≤ k := hk; omega)) (by omega)) (fun _ _ => trivial), harm_below hh hB5 hB5.size (Nat.le_refl _) (by omega)⟩⟩
    | false =>
      gi_wp2_with fail
      refine ⟨trivial, (callsIn_wide.2 HRW.out).mono ?_⟩
      rintro e W4 ⟨rfl, hb4⟩
      have r0 := (hb4.block _ (Array.getElem?_eq_some_iff.1 HI.out.r0).1).trans HI.out.r0
      have r1 := (hb4.block _ (Array.getElem?_eq_some_iff.1 HI.out.r1).1).trans HI.out.r1
      have r2 := (hb4.block _ (Array.getElem?_eq_some_iff.1 HV2.out).1).trans HV2.out
      have HK4 := Lib.hid ((hb4.block _ (Array.getElem?_eq_some_iff.1 HK.out).1).trans HK.out)
      have HS4 := Lib.hid (Kd.S_below HS.out hb4)
      have HB4 := Lib.hid (HI.out.bel.trans (hb4.mono HI.out.bel.size))
      have HR0 := Lib.hid r0
      have HR1 := Lib.hid r1
      clear c2 c0 f0 c1 f1 hb4
      have c2 := cell_of_one r2
      have c0 := cell_of_one r0
      have f0 := free_of_one r0
      have c1 := cell_of_one r1
      have f1 := free_of_one r1
      clear r0 r1 r2
      gi_wp2_with fail
      have hK2 : ((W4.setCell ⟨w.heap.size, 0, none⟩ nilV).setCell ⟨w.heap.size + 1, 0, none⟩ (.int .i64 10)).heap[D]? = some (.deferred (some [])) := (Below.heap_setCell _ ⟨w.heap.size + 1, 0, none⟩ _ _ (by show D ≠ w.heap.size + 1; omega)).trans ((Below.heap_setCell _ ⟨w.heap.size, 0, none⟩ _ _ (by show D ≠ w.heap.size; omega)).trans HK4.out)
      have e0 : (((W4.setCell ⟨w.heap.size, 0, none⟩ nilV).setCell ⟨w.heap.size + 1, 0, none⟩ (.int .i64 10)).putObj D (.deferred none)).heap[w.heap.size]? = some (.cells #[nilV] 25 (0, 0)) := (World.putObj_heap_other (by omega)).trans ((Below.heap_setCell _ ⟨w.heap.size + 1, 0, none⟩ _ _ (by show w.heap.size ≠ w.heap.size + 1; omega)).trans (one_setCell HR0.out))
      have e1 : (((W4.setCell ⟨w.heap.size, 0, none⟩ nilV).setCell ⟨w.heap.size + 1, 0, none⟩ (.int .i64 10)).putObj D (.deferred none)).heap[w.heap.size + 1]? = some (.cells #[.int .i64 10] 26 (0, 0)) := (World.putObj_heap_other (by omega)).trans (one_setCell ((Below.heap_setCell _ ⟨w.heap.size, 0, none⟩ _ _ (by show w.heap.size + 1 ≠ w.heap.size; omega)).trans HR1.out))
      have d0 := cell_of_one e0
      have d1 := cell_of_one e1
      have hh : Harm w.heap.size (w.heap.size + 6) ((W4.setCell ⟨w.heap.size, 0, none⟩ nilV).setCell ⟨w.heap.size + 1, 0, none⟩ (.int .i64 10)) (((W4.setCell ⟨w.heap.size, 0, none⟩ nilV).setCell ⟨w.heap.size + 1, 0, none⟩ (.int .i64 10)).putObj D (.deferred none)) := ⟨some D, grownBy_put _ _ _, fun r e => .inr (by cases e; exact ⟨hDs, _, hK2, rfl⟩)⟩
      have hB5 : Below w.heap.size w ((W4.setCell ⟨w.heap.size, 0, none⟩ nilV).setCell ⟨w.heap.size + 1, 0, none⟩ (.int .i64 10)) := (HB4.out.setCell (p := ⟨w.heap.size, 0, none⟩) (Nat.le_refl _) _).setCell (p := ⟨w.heap.size + 1, 0, none⟩) (Nat.le_succ _) _
      refine ⟨by simp, .inl ⟨_, _, rfl, run_takeDeferred hK2, ?_⟩⟩
      exact ⟨.tuple #[.agg #[.slice none 0 0], .int .i64 10], by simp [results, Tryz.results12, go_sem, d0, d1], by
        rw [HPR.out]
        exact ⟨_, rfl, Kd.S_nil _ _ _ _ _, harm_below hh hB5 hB5.size (Nat.le_refl _) (by omega)⟩⟩
  case stop =>
    rintro D c k W ⟨rfl, hX⟩ hK hD
    have d0 := cell_of_one hX.r0
    have hDs : w.heap.size + 6 ≤ D := by rw [az] at hD; omega
    have HX := Lib.hid hX
    have HK := Lib.hid hK
    clear hX hK hD hit a0 a1 a2 az hbW hbel0 hW0 hz hq0 hq1 hq2 d0
    gi_wp2
    have e0 : (W.putObj D (.deferred none)).heap[w.heap.size]? = some (.cells #[nilV] 25 (0, 0)) := (World.putObj_heap_other (by omega)).trans HX.out.r0
    have e1 : (W.putObj D (.deferred none)).heap[w.heap.size + 1]? = some (.cells #[.int .i64 10] 26 (0, 0)) := (World.putObj_heap_other (by omega)).trans HX.out.r1
    have d0 := cell_of_one e0
    have d1 := cell_of_one e1
    refine ⟨by simp, .inl ⟨_, _, rfl, run_takeDeferred HK.out, ?_⟩⟩
    exact ⟨.tuple #[.agg #[.slice none 0 0], .int .i64 10], by simp [results, Tryz.results12, go_sem, d0, d1], by
      rw [allOk_bad HX.out.no]
      exact ⟨_, rfl, Kd.S_nil _ _ _ _ _, HX.out.bel.grown (grownBy_put _ _ _) HX.out.bel.size (fun j e => by cases e; omega)⟩⟩

def ranges_Parse.f (s : ByteArray) : Option (L2 × Int) := if tiny s then some (parseR s) else none
theorem ranges_Parse.calls (a0 : ByteArray) (r1 : L2) (r2 : Int) (w : World) (hG : Gw w) (h : ranges_Parse.f a0 = some (r1, r2)) :
    Calls Tryz.prog 12 #[.string a0] w fun e w' => ∃ v0_ : Value, e = .returned (.tuple #[.agg #[v0_], .int .i64 r2]) ∧ Kd.S (Kd.slice 48 k48) 46 w' w.heap.size (fun _ => True) v0_ r1 ∧ Below w.heap.size w w' := by
  unfold ranges_Parse.f at h
  split at h
  · rename_i hs
    have h := Option.some.inj h
    refine (RParse_walk a0 hs w hG).mono fun e w' hp => ?_
    unfold RParsePost at hp
    rw [h] at hp
    exact hp
  · cases h
end Go.Proofs.YtckeeefeiljamaaGreatDoor
set_option linter.unusedSimpArgs false
set_option linter.unusedVariables false
namespace Go.Proofs.YtckeeefeiljamaaGreatDoor
open Go.RowKit Go.Lib Go.Shelf Go.Proofs.YtckeeefeiljamaaGreatDoorW.PrintWords PRan

theorem sign_any (j : Nat) (hj : j < 8) (w : World) : Calls Tryz.prog 51 #[.int .i64 j] w fun e w' => e = .returned (.string (sg j)) ∧ Below w.heap.size w w' := by
  have HB : ∀ o, Below w.heap.size w (w.alloc o) := fun o => (Below.refl _ w).alloc (Nat.le_refl _) o
  rcases j with _ | _ | _ | _ | _ | _ | _ | _ | j
  case succ.succ.succ.succ.succ.succ.succ.succ => omega
  all_goals
    clear hj
    go_enter Tryz.func51, Tryz.ntmps51
    go_wp2
    go_ret
    exact ⟨rfl, HB _⟩
def slipwayref02_Sign.f (i : Int) : Option ByteArray := if 0 ≤ i ∧ i < 8 then some (sg i.toNat) else none
theorem slipwayref02_Sign.calls (a0 : Int) (r : ByteArray) (w : World) (h : slipwayref02_Sign.f a0 = some r) :
    Calls Tryz.prog 51 #[.int .i64 a0] w fun e w' => e = .returned (.string r) ∧ Below w.heap.size w w' := by
  unfold slipwayref02_Sign.f at h
  split at h
  · rename_i hs
    obtain rfl := Option.some.inj h
    have := sign_any a0.toNat (by omega) w
    rwa [show ((a0.toNat : Nat) : Int) = a0 by omega] at this
  · cases h
end Go.Proofs.YtckeeefeiljamaaGreatDoor
set_option linter.unusedSimpArgs false
set_option linter.unusedVariables false
namespace Go.Proofs.YtckeeefeiljamaaGreatDoor
open Go.RowKit Go.Lib Go.Shelf Go.Proofs.YtckeeefeiljamaaGreatDoorW.PrintWords PRan

def a1 : ByteArray := ⟨#[94, 48, 46, 50, 46, 51]⟩
def a2 : ByteArray := ⟨#[62, 61, 49, 46, 48, 46, 48, 32, 60, 50, 46, 48, 46, 48, 32, 124, 124, 32, 61, 51, 46, 48, 46, 48]⟩
def a3 : ByteArray := ⟨#[49, 46, 48, 46, 48]⟩
def aa : ByteArray := ⟨#[97]⟩
theorem parse_at (s : ByteArray) (hs : tiny s) (n : Int) (hn : (parseR s).2 = n) (W : World) (hG : Gw W) :
    Calls Tryz.prog 12 #[.string s] W fun e w' => ∃ A m c, e = .returned (.tuple #[.agg #[.slice A m c], .int .i64 n]) ∧ m = (parseR s).1.length ∧ Kd.C (Kd.slice 48 k48) w' A (parseR s).1.length (parseR s).1 ∧ Below W.heap.size W w' := by
  refine (RParse_walk s hs W hG).mono ?_
  rintro e w' ⟨v, rfl, hS, hb⟩
  obtain ⟨A, m, c, rfl⟩ := R_sl (Kd.S_R hS)
  obtain ⟨h1, h2, h3⟩ := Kd.S_reads' hS
  exact ⟨A, m, c, by rw [hn], h1, h3, hb⟩
theorem has_at (A : Option Addr) (m n : Nat) (r : L2) (hm : m = r.length) (a b c : Int) (p : ByteArray) (w : World) (hG : Gw w) (hs : tinyR r) (hp : tiny p) (hC : Kd.C (Kd.slice 48 k48) w A r.length r) (q : Bool) (hq : rangeH r a b c p = q) :
    Calls Tryz.prog 16 #[.agg #[.slice A m n], .agg #[.int .i64 a, .int .i64 b, .int .i64 c, .string p]] w fun e w' => e = .returned (.bool q) ∧ Below w.heap.size w w' := by
  subst hm; subst hq; exact Has_walk A n r a b c p w hG hs hp hC
set_option maxRecDepth 100000 in
set_option maxHeartbeats 2000000 in
theorem anchor_walk (w : World) (hG : Gw w) : Calls Tryz.prog 11 #[] w fun e w' => e = .returned (.bool true) ∧ Below w.heap.size w w' := by
  have P1 := Lib.hid (fun W h => parse_at a1 (by decide) 0 (by decide +kernel) W h)
  have P2 := Lib.hid (fun W h => parse_at a2 (by decide) 0 (by decide +kernel) W h)
  have P3 := Lib.hid (fun W h => parse_at a3 (by decide) 10 (by decide +kernel) W h)
  have t1 : tinyR (parseR a1).1 := tinyB_iff.1 (by decide +kernel)
  have t2 : tinyR (parseR a2).1 := tinyB_iff.1 (by decide +kernel)
  have H1 := Lib.hid (fun A m n hm W hG hC => has_at A m n (parseR a1).1 hm 0 2 9 nob W hG t1 (by decide) hC true (by decide +kernel))
  have H2 := Lib.hid (fun A m n hm W hG hC => has_at A m n (parseR a1).1 hm 0 3 0 nob W hG t1 (by decide) hC false (by decide +kernel))
  have H3 := Lib.hid (fun A m n hm W hG hC => has_at A m n (parseR a1).1 hm 0 2 3 aa W hG t1 (by decide) hC false (by decide +kernel))
  have H4 := Lib.hid (fun A m n hm W hG hC => has_at A m n (parseR a2).1 hm 3 0 0 nob W hG t2 (by decide) hC true (by decide +kernel))
  have H5 := Lib.hid (fun A m n hm W hG hC => has_at A m n (parseR a2).1 hm 2 0 0 nob W hG t2 (by decide) hC false (by decide +kernel))
  have HG := Lib.hid hG
  clear hG t1 t2
  generalize (parseR a1).1 = L1 at *
  generalize (parseR a2).1 = L2 at *
  generalize (parseR a3).1 = L3 at *
  go_enter Tryz.func11, Tryz.ntmps11
  go_wp2_with fail
  refine (P1.out _ HG.out).mono ?_
  rintro e w1 ⟨A1, m1, c1, rfl, hm1, hC1, hb1⟩
  have C1 := Lib.hid (And.intro hm1 hC1)
  have B1 := Lib.hid (hb1.alloc hb1.size (.cells #[.slice A1 m1 c1] 25))
  have v1 : (w1.alloc (.cells #[.slice A1 m1 c1] 25)).heap[w1.heap.size]? = some (.cells #[.slice A1 m1 c1] 25 (0, 0)) := World.alloc_heap_new _ _
  have D1 := Lib.hid (Kd.C_alloc hC1 (.cells #[.slice A1 m1 c1] 25))
  have V1 := Lib.hid v1
  clear hm1 hC1 hb1 v1
  generalize hW1 : w1.alloc (.cells #[.slice A1 m1 c1] 25) = W1 at *
  go_wp2_with fail
  refine (P2.out _ (HG.out.below B1.out)).mono ?_
  rintro e w2 ⟨A2, m2, c2, rfl, hm2, hC2, hb2⟩
  have C2 := Lib.hid hm2
  have B2 := Lib.hid ((B1.out.trans (hb2.mono B1.out.size)).alloc (by have := B1.out.size; have := hb2.size; omega) (.cells #[.slice A2 m2 c2] 25))
  have V1' := Lib.hid (((below_alloc (Below.refl _ w2) (.cells #[.slice A2 m2 c2] 25)).block _ (Nat.lt_of_lt_of_le (Array.getElem?_eq_some_iff.1 V1.out).1 hb2.size)).trans ((hb2.block _ (Array.getElem?_eq_some_iff.1 V1.out).1).trans V1.out))
  have D1' := Lib.hid (Kd.C_alloc (Kd.C_below D1.out hb2) (.cells #[.slice A2 m2 c2] 25))
  have V2 : Hid ((w2.alloc (.cells #[.slice A2 m2 c2] 25)).heap[w2.heap.size]? = some (.cells #[.slice A2 m2 c2] 25 (0, 0))) := Lib.hid (World.alloc_heap_new _ _)
  have D2 := Lib.hid (Kd.C_alloc hC2 (.cells #[.slice A2 m2 c2] 25))
  clear hm2 hC2 hb2 V1 D1
  generalize hW2 : w2.alloc (.cells #[.slice A2 m2 c2] 25) = W2 at *
  go_wp2_with fail
  refine (P3.out _ (HG.out.below B2.out)).mono ?_
  rintro e w3 ⟨A3, m3, c3, rfl, hm3, hC3, hb3⟩
  have B3 := Lib.hid ((B2.out.trans (hb3.mono B2.out.size)).alloc (by have := B2.out.size; have := hb3.size; omega) (.cells #[.slice A3 m3 c3] 25))
  have v1 := ((below_alloc (Below.refl _ w3) (.cells #[.slice A3 m3 c3] 25)).block _ (Nat.lt_of_lt_of_le (Array.getElem?_eq_some_iff.1 V1'.out).1 hb3.size)).trans ((hb3.block _ (Array.getElem?_eq_some_iff.1 V1'.out).1).trans V1'.out)
  have v2 := ((below_alloc (Below.refl _ w3) (.cells #[.slice A3 m3 c3] 25)).block _ (Nat.lt_of_lt_of_le (Array.getElem?_eq_some_iff.1 V2.out).1 hb3.size)).trans ((hb3.block _ (Array.getElem?_eq_some_iff.1 V2.out).1).trans V2.out)
  have E1 := Lib.hid (Kd.C_alloc (Kd.C_below D1'.out hb3) (.cells #[.slice A3 m3 c3] 25))
  have E2 := Lib.hid (Kd.C_alloc (Kd.C_below D2.out hb3) (.cells #[.slice A3 m3 c3] 25))
  clear hm3 hC3 hb3 V1' D1' V2 D2
  have W1' := Lib.hid v1
  have W2' := Lib.hid v2
  clear v1 v2
  generalize hW3 : w3.alloc (.cells #[.slice A3 m3 c3] 25) = W3 at *
  have n1 := cell_of_one W1'.out
  have n2 := cell_of_one W2'.out
  go_wp2_with fail
  refine (H1.out A1 m1 c1 C1.out.1 W3 (HG.out.below B3.out) E1.out).mono ?_
  rintro e w4 ⟨rfl, hb4⟩
  have B4 := Lib.hid (B3.out.trans (hb4.mono B3.out.size))
  have X1 := Lib.hid ((hb4.block _ (Array.getElem?_eq_some_iff.1 W1'.out).1).trans W1'.out)
  have X2 := Lib.hid ((hb4.block _ (Array.getElem?_eq_some_iff.1 W2'.out).1).trans W2'.out)
  have F1 := Lib.hid (Kd.C_below E1.out hb4)
  have F2 := Lib.hid (Kd.C_below E2.out hb4)
  clear hb4 n1 n2
  have n1 := cell_of_one X1.out
  go_wp2_with fail
  refine (H2.out A1 m1 c1 C1.out.1 w4 (HG.out.below B4.out) F1.out).mono ?_
  rintro e w5 ⟨rfl, hb5⟩
  have B5 := Lib.hid (B4.out.trans (hb5.mono B4.out.size))
  have Y1 := Lib.hid ((hb5.block _ (Array.getElem?_eq_some_iff.1 X1.out).1).trans X1.out)
  have Y2 := Lib.hid ((hb5.block _ (Array.getElem?_eq_some_iff.1 X2.out).1).trans X2.out)
  have G1 := Lib.hid (Kd.C_below F1.out hb5)
  have G2 := Lib.hid (Kd.C_below F2.out hb5)
  clear hb5 n1
  have n1 := cell_of_one Y1.out
  go_wp2_with fail
  refine (H3.out A1 m1 c1 C1.out.1 w5 (HG.out.below B5.out) G1.out).mono ?_
  rintro e w6 ⟨rfl, hb6⟩
  have B6 := Lib.hid (B5.out.trans (hb6.mono B5.out.size))
  have Z2 := Lib.hid ((hb6.block _ (Array.getElem?_eq_some_iff.1 Y2.out).1).trans Y2.out)
  have K2 := Lib.hid (Kd.C_below G2.out hb6)
  clear hb6 n1
  have n2 := cell_of_one Z2.out
  go_wp2_with fail
  refine (H4.out A2 m2 c2 C2.out w6 (HG.out.below B6.out) K2.out).mono ?_
  rintro e w7 ⟨rfl, hb7⟩
  have B7 := Lib.hid (B6.out.trans (hb7.mono B6.out.size))
  have Q2 := Lib.hid ((hb7.block _ (Array.getElem?_eq_some_iff.1 Z2.out).1).trans Z2.out)
  have M2 := Lib.hid (Kd.C_below K2.out hb7)
  clear hb7 n2
  have n2 := cell_of_one Q2.out
  go_wp2_with fail
  refine (H5.out A2 m2 c2 C2.out w7 (HG.out.below B7.out) M2.out).mono ?_
  rintro e w8 ⟨rfl, hb8⟩
  have B8 := Lib.hid (B7.out.trans (hb8.mono B7.out.size))
  clear hb8 n2
  go_wp2_with fail
  go_ret
  exact ⟨rfl, B8.out⟩
def slipwaylaw02_anchor.f : Option Bool := some true
theorem slipwaylaw02_anchor.calls (r : Bool) (w : World) (hG : Gw w) (h : slipwaylaw02_anchor.f = some r) :
    Calls Tryz.prog 11 #[] w fun e w' => e = .returned (.bool r) ∧ Below w.heap.size w w' := by
  obtain rfl := Option.some.inj h; exact anchor_walk w hG
end Go.Proofs.YtckeeefeiljamaaGreatDoor
