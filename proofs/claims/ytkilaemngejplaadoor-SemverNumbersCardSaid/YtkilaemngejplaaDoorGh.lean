/- semver.marks: two Pres held against one another. -/
import Derived.Test.YtkilaemngejplaaDoorGg
import Derived.Deep.RegionHeld3
import Derived.BigQuiet
import Derived.Deep.QuietTactic
set_option linter.unusedSimpArgs false
set_option linter.unusedVariables false
namespace Go.Proofs.YtkilaemngejplaaDoor
open Go.RowKit Go.Proofs.YtkilaemngejplaaDoorW.PrintWords

def cmpI (a b : Int) : Int := if a < b then -1 else if a > b then 1 else 0
theorem cmpI_any (a b : Int) (w : World) : Calls Tryd.prog 32 #[.int .i64 a, .int .i64 b] w fun e w' => e = .returned (.int .i64 (cmpI a b)) ∧ w = w' :=
  (Tryd.cmp_Compare_int a b w).mono fun e w' h => ⟨h.1, h.2.symm⟩

/-- Of two marks that aren't the same. -/
def cmpM (p q : ByteArray) : Int :=
  if numP p = true then (if numP q = true then cmpI (valP p) (valP q) else -1) else if numP q = true then 1 else cmpS p q
def cmpL (m n : Nat) : List ByteArray → List ByteArray → Int
  | p :: x, q :: y => if p.toList = q.toList then cmpL m n x y else cmpM p q
  | _, _ => cmpI m n
def marksV (a b : ByteArray) : Int :=
  if a.toList = [] ∨ b.toList = [] then cmpI b.size a.size else cmpL (pieces dot a).length (pieces dot b).length (pieces dot a) (pieces dot b)

structure MRel (w : World) (A C : Option Addr) (c d : Nat) (x y : List ByteArray) (wr : World) : Prop where
  r1 : Kd.R Kd.string 9 wr w.heap.size (fun _ => True) (.slice A x.length c) x
  r2 : Kd.R Kd.string 9 wr w.heap.size (fun _ => True) (.slice C y.length d) y
  bel : Below w.heap.size w wr
theorem MRel.below {w wr wn : World} {A C : Option Addr} {c d : Nat} {x y : List ByteArray} (h : MRel w A C c d x y wr) (hb : Below wr.heap.size wr wn) : MRel w A C c d x y wn :=
  ⟨Kd.R_below h.r1 hb, Kd.R_below h.r2 hb, h.bel.trans (hb.mono h.bel.size)⟩
theorem MRel.at1 {w wr : World} {A C : Option Addr} {c d : Nat} {x y : List ByteArray} (h : MRel w A C c d x y wr) (j : Nat) (hj : j < x.length) : ∃ ad, A = some ad ∧ wr.cell? (ad.add j) = some (.string (x.getD j ByteArray.empty)) := by
  obtain ⟨_, _, hC⟩ := Kd.R_reads' h.r1
  obtain ⟨ad, e, hx⟩ := Kd.at_string hC j (by omega) (by omega)
  exact ⟨ad, e, by rw [Int.toNat_natCast] at hx; rw [hx]; rfl⟩
theorem MRel.at2 {w wr : World} {A C : Option Addr} {c d : Nat} {x y : List ByteArray} (h : MRel w A C c d x y wr) (j : Nat) (hj : j < y.length) : ∃ ad, C = some ad ∧ wr.cell? (ad.add j) = some (.string (y.getD j ByteArray.empty)) := by
  obtain ⟨_, _, hC⟩ := Kd.R_reads' h.r2
  obtain ⟨ad, e, hx⟩ := Kd.at_string hC j (by omega) (by omega)
  exact ⟨ad, e, by rw [Int.toNat_natCast] at hx; rw [hx]; rfl⟩
section
variable {a1 a2 : Addr} {p q : Value} {wr w1 w2 : World} {n : Nat}
theorem s3_step (h : w1.cell? a1 = some p ∧ w1.cell? a2 = some q ∧ Below wr.heap.size wr w1) (k : Below w1.heap.size w1 w2) : w2.cell? a1 = some p ∧ w2.cell? a2 = some q ∧ Below wr.heap.size wr w2 :=
  ⟨pw_cell_below k h.1, pw_cell_below k h.2.1, h.2.2.trans (k.mono h.2.2.size)⟩
theorem s3_start (h1 : wr.cell? a1 = some p) (h2 : wr.cell? a2 = some q) : (wr.drewN n).drew.cell? a1 = some p ∧ (wr.drewN n).drew.cell? a2 = some q ∧ Below wr.heap.size wr (wr.drewN n).drew :=
  ⟨h1, h2, below_drew (pw_below_drewN (Below.refl _ _) n)⟩
theorem s3_first (h1 : wr.cell? a1 = some p) (h2 : wr.cell? a2 = some q) (k : Below (wr.drewN n).heap.size (wr.drewN n) w2) : w2.cell? a1 = some p ∧ w2.cell? a2 = some q ∧ Below wr.heap.size wr w2 :=
  s3_step (w1 := wr.drewN n) ⟨h1, h2, pw_below_drewN (Below.refl _ _) n⟩ k
end
def MPost (w : World) (R : Int) (e : Ending) (w' : World) : Prop := e = .returned (.int .i64 R) ∧ Below w.heap.size w w'

set_option maxHeartbeats 2000000 in
set_option maxRecDepth 100000 in
theorem marks_walk (a b : ByteArray) (w : World) (hG : Gw w) (x y : List ByteArray) (hx : strings_Split.f a dot = some x) (hy : strings_Split.f b dot = some y) (ha : a.toList ≠ []) (hb : b.toList ≠ []) (hxl : x.length ≤ 4294967296) (hyl : y.length ≤ 4294967296)
    (R : Int) (hR : R = cmpL x.length y.length x y) :
    Calls Tryd.prog 34 #[.string a, .string b] w (MPost w R) := by
  have HG := Lib.hid hG
  have HX := Lib.hid (fun W hg => strings_Split.calls a dot x W hg hx)
  have HY := Lib.hid (fun W hg => strings_Split.calls b dot y W hg hy)
  have HR := Lib.hid hR
  have e1 : (a.toList == ([] : List UInt8)) = false := by simpa using ha
  have e2 : (b.toList == ([] : List UInt8)) = false := by simpa using hb
  have e3 : a.toList.isEmpty = false := by simpa using ha
  have e4 : b.toList.isEmpty = false := by simpa using hb
  clear hG hx hy ha hb hR
  go_enter Tryd.func34, Tryd.ntmps34
  go_wp2_with fail
  refine (HX.out _ HG.out).mono ?_
  rintro e w1 ⟨v1, rfl, hv1, hb1⟩
  obtain ⟨A, c, rfl, _, _⟩ := Kd.R_reads hv1
  go_wp2_with fail
  refine (HY.out _ (HG.out.below hb1)).mono ?_
  rintro e w2 ⟨v2, rfl, hv2, hb2⟩
  obtain ⟨C, d, rfl, _, _⟩ := Kd.R_reads hv2
  have HM : Hid (MRel w A C c d x y w2) := Lib.hid ⟨Kd.R_below hv1 hb2, Kd.R_lower hv2 hb1.size, hb1.trans (hb2.mono hb1.size)⟩
  clear hv1 hv2 hb1 hb2
  go_wp2_with fail
  go_loopw [7] (fun i wr => ∃ k : Nat, k ≤ x.length ∧ k ≤ y.length ∧ i = .int .i64 k ∧ Hid (MRel w A C c d x y wr ∧ R = cmpL x.length y.length (x.drop k) (y.drop k))) (fun i _ => x.length - (intOf i).toNat)
  case atStart => exact ⟨0, by omega, by omega, rfl, Lib.hid ⟨HM.out, HR.out⟩⟩
  case round =>
    obtain ⟨k, hk, hk2, rfl, HREL⟩ := hrel
    clear HM HR
    by_cases hlt2 : k < x.length ∧ k < y.length
    · obtain ⟨hlt, hky⟩ := hlt2
      obtain ⟨ad, rfl, hs1⟩ := HREL.out.1.at1 k hlt
      obtain ⟨ad2, rfl, hs2⟩ := HREL.out.1.at2 k hky
      obtain ⟨p, HP⟩ : ∃ p, Hid (x.getD k ByteArray.empty = p) := ⟨_, Lib.hid rfl⟩
      obtain ⟨q, HQ⟩ : ∃ p, Hid (y.getD k ByteArray.empty = p) := ⟨_, Lib.hid rfl⟩
      rw [HP.out] at hs1
      rw [HQ.out] at hs2
      have dk : decide ((k : Int) < min (x.length : Int) (y.length : Int)) = true := by simp; omega
      have hstep : Hid (cmpL x.length y.length (x.drop k) (y.drop k) = if p.toList = q.toList then cmpL x.length y.length (x.drop (k + 1)) (y.drop (k + 1)) else cmpM p q) := Lib.hid (by
        rw [List.drop_eq_getElem_cons hlt, List.drop_eq_getElem_cons hky]
        have h1 := HP.out; have h2 := HQ.out
        rw [List.getD_eq_getElem?_getD, List.getElem?_eq_getElem (by assumption)] at h1 h2
        simp only [Option.getD_some] at h1 h2
        rw [h1, h2]; rfl)
      by_cases hpq : p.toList = q.toList
      · have d1 : (p.toList == q.toList) = true := by simpa using hpq
        have HR1 : Hid (R = cmpL x.length y.length (x.drop (k + 1)) (y.drop (k + 1))) := Lib.hid (by rw [HREL.out.2, hstep.out, if_pos hpq])
        clear hpq hstep
        go_wp2_with fail
        go_quiet (fail)
        go_wp2_with fail
        go_roundw
        case rel => exact ⟨k + 1, by omega, by omega, by go_num, Lib.hid ⟨HREL.out.1.below (pw_below_drewN (Below.refl _ _) _), HR1.out⟩⟩
        case measure => simp [intOf]; omega
      · have d1 : (p.toList == q.toList) = false := by simpa using hpq
        have HR1 : Hid (R = cmpM p q) := Lib.hid (by rw [HREL.out.2, hstep.out, if_neg hpq])
        clear hpq hstep
        go_wp2_with fail
        go_quiet (fail)
        go_wp2_with fail
        go_region_held3 (fun w' => w'.cell? (ad.add k) = some (.string p) ∧ w'.cell? (ad2.add k) = some (.string q) ∧ Below wr.heap.size wr w') (first | exact s3_step (by assumption) (by assumption) | exact s3_first (by assumption) (by assumption) (by assumption) | exact s3_start (by assumption) (by assumption))
          ((go_at_call 26; refine (number_any _ _).mono ?_; rintro e w' ⟨rfl, hb⟩))
        rename_i hS
        obtain ⟨s1, s2, s3⟩ := hS
        have HREL2 := Lib.hid (HREL.out.1.below s3)
        have HR2 := HR1
        clear hs1 hs2 HREL s3 HR1
        cases hp : numP p with
        | true =>
          cases hq : numP q with
          | true =>
            have HR3 : Hid (R = cmpI (valP p) (valP q)) := Lib.hid (by rw [HR2.out]; unfold cmpM; rw [if_pos hp, if_pos hq])
            have HA1 := Lib.hid (fun W => atoi_any p hp W)
            have HA2 := Lib.hid (fun W => atoi_any q hq W)
            clear hp hq HR2
            go_wp2_with fail
            refine (HA1.out _).mono ?_
            rintro e w7 ⟨rfl, hb7⟩
            have s27 := pw_cell_below hb7 s2
            have HREL7 := Lib.hid (HREL2.out.below hb7)
            clear s1 s2 HREL2 hb7
            go_wp2_with fail
            refine (HA2.out _).mono ?_
            rintro e w8 ⟨rfl, hb8⟩
            have HREL8 := Lib.hid (HREL7.out.below hb8)
            clear s27 HREL7 hb8
            go_wp2_with fail
            refine (cmpI_any _ _ _).mono ?_
            rintro e w9 ⟨rfl, rfl⟩
            go_wp2_with fail
            go_ret
            exact ⟨by rw [HR3.out]; rfl, HREL8.out.bel⟩
          | false =>
            have HR3 : Hid (R = -1) := Lib.hid (by rw [HR2.out]; unfold cmpM; rw [if_pos hp, hq]; rfl)
            clear hp hq HR2
            go_wp2_with fail
            go_ret
            exact ⟨by rw [HR3.out]; rfl, HREL2.out.bel⟩
        | false =>
          cases hq : numP q with
          | true =>
            have HR3 : Hid (R = 1) := Lib.hid (by rw [HR2.out]; unfold cmpM; rw [hp, hq]; rfl)
            clear hp hq HR2
            go_wp2_with fail
            go_ret
            exact ⟨by rw [HR3.out]; rfl, HREL2.out.bel⟩
          | false =>
            have HR3 : Hid (R = cmpS p q) := Lib.hid (by rw [HR2.out]; unfold cmpM; rw [hp, hq]; rfl)
            clear hp hq HR2
            go_wp2_with fail
            go_quiet ((go_at_call 49; exact Calls.quiet_of_same ((cmpS_any p q _).mono fun e w' h => ⟨h.1, h.2.symm⟩)))
            go_wp2_with fail
            go_ret
            exact ⟨by rw [HR3.out]; rfl, pw_below_drewN HREL2.out.bel _⟩
    · have dk : decide ((k : Int) < min (x.length : Int) (y.length : Int)) = false := by simp; omega
      have HR3 : Hid (R = cmpI x.length y.length) := Lib.hid (by
        rw [HREL.out.2]
        by_cases h : k = x.length
        · rw [h, List.drop_of_length_le (Nat.le_refl _)]; rfl
        · have h2 : k = y.length := by omega
          rw [h2, List.drop_of_length_le (Nat.le_refl y.length)]
          cases x.drop y.length <;> rfl)
      go_wp2_with fail
      refine (cmpI_any _ _ _).mono ?_
      rintro e w9 ⟨rfl, rfl⟩
      go_wp2_with fail
      go_ret
      exact ⟨by rw [HR3.out]; rfl, HREL.out.1.bel⟩

set_option maxRecDepth 100000 in
theorem marks_empty (a b : ByteArray) (w : World) (h : a.toList = [] ∨ b.toList = []) :
    Calls Tryd.prog 34 #[.string a, .string b] w fun e w' => e = .returned (.int .i64 (cmpI b.size a.size)) ∧ Below w.heap.size w w' := by
  by_cases ha : a.toList = []
  · have e1 : (a.toList == ([] : List UInt8)) = true := by simpa using ha
    have e3 : a.toList.isEmpty = true := by simpa using ha
    clear h ha
    go_enter Tryd.func34, Tryd.ntmps34
    go_wp2_with fail
    refine (cmpI_any _ _ _).mono ?_
    rintro e w9 ⟨rfl, rfl⟩
    go_wp2_with fail
    go_ret
    exact ⟨rfl, Below.refl _ _⟩
  · have hb := h.resolve_left ha
    have e1 : (a.toList == ([] : List UInt8)) = false := by simpa using ha
    have e3 : a.toList.isEmpty = false := by simpa using ha
    have e2 : (b.toList == ([] : List UInt8)) = true := by simpa using hb
    have e4 : b.toList.isEmpty = true := by simpa using hb
    clear h ha hb
    go_enter Tryd.func34, Tryd.ntmps34
    go_wp2_with fail
    refine (cmpI_any _ _ _).mono ?_
    rintro e w9 ⟨rfl, rfl⟩
    go_wp2_with fail
    go_ret
    exact ⟨rfl, Below.refl _ _⟩
theorem split_some (s : ByteArray) (h : s.size < 4294967281) : strings_Split.f s dot = some (pieces dot s) := by
  unfold strings_Split.f; rw [if_pos ⟨h, by decide⟩]; rfl
theorem pieces_len (s : ByteArray) : (pieces dot s).length ≤ s.size + 1 := by
  unfold pieces
  rw [Lib.splitB_all dot (by decide) 0 _ s rfl]
  have := Lib.countB_le dot (by decide) s.size s (Nat.le_refl _)
  omega
theorem marks_any (a b : ByteArray) (ha : a.size < 4294967281) (hb : b.size < 4294967281) (w : World) (hG : Gw w) : Calls Tryd.prog 34 #[.string a, .string b] w (MPost w (marksV a b)) := by
  unfold marksV
  by_cases h : a.toList = [] ∨ b.toList = []
  · rw [if_pos h]; exact marks_empty a b w h
  · rw [if_neg h]
    have h1 := pieces_len a; have h2 := pieces_len b
    exact marks_walk a b w hG _ _ (split_some a ha) (split_some b hb) (fun e => h (.inl e)) (fun e => h (.inr e)) (by omega) (by omega) _ rfl
def semver_marks.f (a b : ByteArray) : Option Int := if a.size < 4294967281 ∧ b.size < 4294967281 then some (marksV a b) else none
theorem semver_marks.calls (a0 a1 : ByteArray) (r : Int) (w : World) (hG : Gw w) (h : semver_marks.f a0 a1 = some r) :
    Calls Tryd.prog 34 #[.string a0, .string a1] w fun e w' => e = .returned (.int .i64 r) ∧ Below w.heap.size w w' := by
  unfold semver_marks.f at h
  split at h
  · rename_i hs; obtain rfl := Option.some.inj h; exact marks_any a0 a1 hs.1 hs.2 w hG
  · cases h
end Go.Proofs.YtkilaemngejplaaDoor
