/- semver.Parse: what it answers at any text that isn't huge. -/
import Derived.Test.YtkilaemngejplaaDoorGe
set_option linter.unusedSimpArgs false
set_option linter.unusedVariables false
namespace Go.Proofs.YtkilaemngejplaaDoor
open Go.RowKit Go.Shelf Go.Proofs.YtkilaemngejplaaDoorW.PrintWords

def minus : ByteArray := ⟨#[45]⟩
/-- The number that digits spell. -/
def decV (acc : Nat) (l : List UInt8) : Nat := l.foldl (fun a b => a * 10 + (b.toNat - 48)) acc
def numV (l : List UInt8) : Int := (decV 0 l : Nat)
def numP (p : ByteArray) : Bool := numL p.data.toList
def valP (p : ByteArray) : Int := numV p.data.toList
theorem number_any (s : ByteArray) (w : World) : Calls Tryd.prog 26 #[.string s] w fun e w' => e = .returned (.bool (numP s)) ∧ Below w.heap.size w w' :=
  PNum.semver_number.calls s _ w (number_some s)

theorem decFrom_digits : ∀ (l : List UInt8) (acc : Nat), l.all isDig = true → Lib.decFrom acc l = some (decV acc l) := by
  intro l
  induction l with
  | nil => intro acc _; rfl
  | cons b t ih =>
    intro acc h
    simp only [List.all_cons, Bool.and_eq_true] at h
    have hb : 48 ≤ b.toNat ∧ b.toNat ≤ 57 := by simpa [isDig] using h.1
    simp only [Lib.decFrom, Lib.digitVal, if_pos hb, ih _ h.2]
    rfl
theorem numL_parts {l : List UInt8} (h : numL l = true) : l ≠ [] ∧ l.length ≤ 6 ∧ l.all isDig = true ∧ ¬ (l.head? = some 48 ∧ l.length ≠ 1) := by
  simp only [numL, Bool.and_eq_true, Bool.not_eq_true', decide_eq_true_eq, List.isEmpty_eq_false_iff] at h
  obtain ⟨⟨⟨h1, h2⟩, h3⟩, h4⟩ := h
  refine ⟨h1, h2, h4, fun hc => ?_⟩
  rw [decide_eq_true hc.1, decide_eq_true hc.2] at h3
  simp at h3
theorem atoi_num (s : ByteArray) (h : numP s = true) : strconv_Atoi.f s = some (valP s, none) := by
  obtain ⟨h1, h2, h3, _⟩ := numL_parts h
  unfold strconv_Atoi.f
  rw [data_length] at h2
  rw [if_pos (by omega)]
  unfold valP numV
  generalize s.data.toList = l at *
  cases l with
  | nil => exact absurd rfl h1
  | cons b t =>
    have hb : 48 ≤ b.toNat ∧ b.toNat ≤ 57 := by simp only [List.all_cons, Bool.and_eq_true] at h3; simpa [isDig] using h3.1
    have e1 : (b == 45) = false := by rw [beq_eq_false_iff_ne]; rintro rfl; exact absurd hb.1 (by decide)
    have e2 : (b == 43) = false := by rw [beq_eq_false_iff_ne]; rintro rfl; exact absurd hb.1 (by decide)
    simp only [Lib.atoi, e1, e2, Lib.decNat, List.isEmpty_cons, decFrom_digits _ _ h3]
    rfl
theorem atoi_any (s : ByteArray) (h : numP s = true) (w : World) : Calls Tryd.prog 27 #[.string s] w fun e w' => e = .returned (.tuple #[.int .i64 (valP s), .nilIface]) ∧ Below w.heap.size w w' :=
  strconv_Atoi.calls s _ _ w (atoi_num s h)

abbrev zv : Array Value := #[.int .i64 0, .int .i64 0, .int .i64 0, .string ⟨#[]⟩]
def pv (ps : List ByteArray) (k j : Nat) : Int := if j < k then valP (ps.getD j ByteArray.empty) else 0

structure PRel (w : World) (A : Option Addr) (c Pb : Nat) (ps : List ByteArray) (p : ByteArray) (k : Nat) (wr : World) : Prop where
  ok : (ps.take k).all numP = true
  v : wr.heap[w.heap.size + 1]? = some (.cells #[.int .i64 (pv ps k 0), .int .i64 (pv ps k 1), .int .i64 (pv ps k 2), .string p] 25 (0, 0))
  r : wr.heap[w.heap.size]? = some (.cells zv 25 (0, 0))
  ptrs : wr.heap[Pb]? = some (.cells #[.pointer (some ⟨w.heap.size + 1, 0, none⟩), .pointer (some ⟨w.heap.size + 1, 1, none⟩), .pointer (some ⟨w.heap.size + 1, 2, none⟩)] 50 (0, 0))
  row : Kd.R Kd.string 9 wr (w.heap.size + 2) (fun k => w.heap.size + 2 ≤ k) (.slice A 3 c) ps
  bel : Below w.heap.size w wr
theorem PRel.below {w wr wn : World} {A : Option Addr} {c Pb k : Nat} {ps : List ByteArray} {p : ByteArray} (h : PRel w A c Pb ps p k wr) (hb : Below wr.heap.size wr wn) : PRel w A c Pb ps p k wn :=
  have hb' : ∀ {r : Nat} {o : Obj}, wr.heap[r]? = some o → wn.heap[r]? = some o := fun {r o} hr => (hb.block r (Array.getElem?_eq_some_iff.1 hr).1).trans hr
  ⟨h.ok, hb' h.v, hb' h.r, hb' h.ptrs, Kd.R_below h.row hb, h.bel.trans (hb.mono h.bel.size)⟩
theorem PRel.str {w wr : World} {A : Option Addr} {c Pb k : Nat} {ps : List ByteArray} {p : ByteArray} (h : PRel w A c Pb ps p k wr) (j : Nat) (hj : j < 3) :
    ∃ ad, A = some ad ∧ wr.cell? (ad.add j) = some (.string (ps.getD j ByteArray.empty)) := by
  obtain ⟨hn, hc, hC⟩ := Kd.R_reads' h.row
  obtain ⟨ad, e, hx⟩ := Kd.at_string hC j (by omega) (by omega)
  exact ⟨ad, e, by rw [Int.toNat_natCast] at hx; rw [hx]; rfl⟩
theorem PRel.step {w wr : World} {A : Option Addr} {c Pb k : Nat} {ps : List ByteArray} {p : ByteArray} (h : PRel w A c Pb ps p k wr) (hl : ps.length = 3) (hk : k < 3) (hn : numP (ps.getD k ByteArray.empty) = true) (hPb : w.heap.size + 1 < Pb) :
    PRel w A c Pb ps p (k + 1) (wr.setCell ⟨w.heap.size + 1, k, none⟩ (.int .i64 (valP (ps.getD k ByteArray.empty)))) := by
  have hne : ∀ r, r ≠ w.heap.size + 1 → (wr.setCell ⟨w.heap.size + 1, k, none⟩ (.int .i64 (valP (ps.getD k ByteArray.empty)))).heap[r]? = wr.heap[r]? := fun r hr => Below.heap_setCell wr _ _ r hr
  refine ⟨?_, ?_, (hne _ (by omega)).trans h.r, (hne _ (by omega)).trans h.ptrs, Kd.R_far h.row (fun j hj => by show j ≠ w.heap.size + 1; omega) _, h.bel.setCell (p := ⟨w.heap.size + 1, k, none⟩) (by show w.heap.size ≤ w.heap.size + 1; omega) _⟩
  · rw [List.take_succ_eq_append_getElem (by omega), List.all_append, h.ok]
    rw [List.getD_eq_getElem?_getD, List.getElem?_eq_getElem (by omega)] at hn
    simp only [Option.getD_some] at hn
    simp [hn]
  · have hlt := (Array.getElem?_eq_some_iff.1 h.v).1
    have hv := (Array.getElem?_eq_some_iff.1 h.v).2
    simp only [World.setCell]
    rw [Array.getElem?_modify]
    rw [if_pos rfl, h.v]
    obtain rfl | rfl | rfl : k = 0 ∨ k = 1 ∨ k = 2 := by omega
    all_goals simp [pv]

def parseV (s : ByteArray) : Int × Int × Int × ByteArray × Int :=
  let c := Lib.cut s.data.toList [45]
  let ps := pieces dot (toBytes c.1)
  if ps.length ≠ 3 ∨ (c.2.2 = true ∧ preB (toBytes c.2.1) = false) ∨ ps.all numP = false then (0, 0, 0, ⟨#[]⟩, 10)
  else (valP (ps.getD 0 ByteArray.empty), valP (ps.getD 1 ByteArray.empty), valP (ps.getD 2 ByteArray.empty), toBytes c.2.1, 0)

def ParsePost (w : World) (r : Int × Int × Int × ByteArray × Int) (e : Ending) (w' : World) : Prop :=
  e = .returned (.tuple #[.agg #[.int .i64 r.1, .int .i64 r.2.1, .int .i64 r.2.2.1, .string r.2.2.2.1], .int .i64 r.2.2.2.2]) ∧ Below w.heap.size w w'
def badV : Int × Int × Int × ByteArray × Int := (0, 0, 0, ⟨#[]⟩, 10)
def goodV (ps : List ByteArray) (p : ByteArray) : Int × Int × Int × ByteArray × Int :=
  if ps.all numP = true then (valP (ps.getD 0 ByteArray.empty), valP (ps.getD 1 ByteArray.empty), valP (ps.getD 2 ByteArray.empty), p, 0) else badV

theorem bel4 {w w2 : World} (h : Below w.heap.size w w2) {x0 x1 x2 x3 : Value} : Below w.heap.size w ((((w2.setCell ⟨w.heap.size, 0, none⟩ x0).setCell ⟨w.heap.size, 1, none⟩ x1).setCell ⟨w.heap.size, 2, none⟩ x2).setCell ⟨w.heap.size, 3, none⟩ x3) :=
  (((h.setCell (p := ⟨w.heap.size, 0, none⟩) (Nat.le_refl _) _).setCell (p := ⟨w.heap.size, 1, none⟩) (Nat.le_refl _) _).setCell (p := ⟨w.heap.size, 2, none⟩) (Nat.le_refl _) _).setCell (p := ⟨w.heap.size, 3, none⟩) (Nat.le_refl _) _
theorem cell_of_row {w : World} {b : Nat} {t : TypeId} {x0 x1 x2 x3 : Value} (h : w.heap[b]? = some (.cells #[x0, x1, x2, x3] t (0, 0))) :
    w.cell? ⟨b, 0, none⟩ = some x0 ∧ w.cell? ⟨b, 1, none⟩ = some x1 ∧ w.cell? ⟨b, 2, none⟩ = some x2 ∧ w.cell? ⟨b, 3, none⟩ = some x3 := by
  simp [World.cell?, h]
theorem free_of_row {w : World} {b : Nat} {t : TypeId} {x0 x1 x2 x3 : Value} (h : w.heap[b]? = some (.cells #[x0, x1, x2, x3] t (0, 0))) :
    w.frozen? ⟨b, 0, none⟩ = false ∧ w.frozen? ⟨b, 1, none⟩ = false ∧ w.frozen? ⟨b, 2, none⟩ = false ∧ w.frozen? ⟨b, 3, none⟩ = false := by
  simp [World.frozen?, h]

set_option maxHeartbeats 1000000 in
set_option maxRecDepth 100000 in
theorem Parse_walk (s : ByteArray) (w : World) (hG : Gw w) (s0 p : ByteArray) (dashed : Bool) (hc : strings_Cut.f s minus = some (s0, p, dashed)) (ps : List ByteArray) (hp : strings_Split.f s0 dot = some ps)
    (hps : p.size < 4294967281) (R : Int × Int × Int × ByteArray × Int) (hR1 : (ps.length ≠ 3 ∨ (dashed = true ∧ preB p = false)) → R = badV) (hR2 : ¬ (ps.length ≠ 3 ∨ (dashed = true ∧ preB p = false)) → R = goodV ps p) :
    Calls Tryd.prog 13 #[.string s] w (ParsePost w R) := by
  have HR1 := Lib.hid hR1
  have HR2 := Lib.hid hR2
  clear hR1 hR2
  have HG := Lib.hid hG
  have HC := Lib.hid (fun W hg => strings_Cut.calls s minus s0 p dashed W hg hc)
  have HP := Lib.hid (fun W hg => strings_Split.calls s0 dot ps W hg hp)
  have hbig := hG.big
  clear hG hc hp
  go_enter Tryd.func13, Tryd.ntmps13
  go_wp2_with fail
  have hb0 : Below w.heap.size w ((w.alloc (.cells zv 25)).alloc (.cells zv 25)) := ((Below.refl _ w).alloc (Nat.le_refl _) _).alloc (by simp) _
  refine (HC.out _ (HG.out.below hb0)).mono ?_
  rintro e w1 ⟨rfl, ⟨n1, rfl⟩⟩
  go_wp2_with fail
  have hq1 : ((((w.alloc (.cells zv 25)).alloc (.cells zv 25)).drewN n1).setCell ⟨w.heap.size + 1, 3, none⟩ (.string p)).heap[w.heap.size + 1]? = some (.cells #[.int .i64 0, .int .i64 0, .int .i64 0, .string p] 25 (0, 0)) := by
    have h1 : ((w.alloc (.cells zv 25)).alloc (.cells zv 25)).heap[w.heap.size + 1]? = some (.cells zv 25 (0, 0)) := by
      have := World.alloc_heap_new (w.alloc (.cells zv 25)) (.cells zv 25); rwa [World.size_alloc] at this
    simp only [World.setCell, World.drewN]
    rw [Array.getElem?_modify, if_pos rfl, h1]; rfl
  have hq0 : ((((w.alloc (.cells zv 25)).alloc (.cells zv 25)).drewN n1).setCell ⟨w.heap.size + 1, 3, none⟩ (.string p)).heap[w.heap.size]? = some (.cells zv 25 (0, 0)) := by
    rw [Below.heap_setCell _ _ _ _ (by show w.heap.size ≠ w.heap.size + 1; omega)]
    show ((w.alloc (.cells zv 25)).alloc (.cells zv 25)).heap[w.heap.size]? = _
    rw [Below.heap_alloc _ _ _ (by simp)]; exact World.alloc_heap_new _ _
  have hb1 : Below w.heap.size w ((((w.alloc (.cells zv 25)).alloc (.cells zv 25)).drewN n1).setCell ⟨w.heap.size + 1, 3, none⟩ (.string p)) :=
    (below_drewN hb0 n1).setCell (p := ⟨w.heap.size + 1, 3, none⟩) (by show w.heap.size ≤ w.heap.size + 1; omega) _
  have hz1 : ((((w.alloc (.cells zv 25)).alloc (.cells zv 25)).drewN n1).setCell ⟨w.heap.size + 1, 3, none⟩ (.string p)).heap.size = w.heap.size + 2 := by
    simp [World.drewN]
  generalize (((w.alloc (.cells zv 25)).alloc (.cells zv 25)).drewN n1).setCell ⟨w.heap.size + 1, 3, none⟩ (.string p) = W1 at *
  refine (HP.out _ (HG.out.below hb1)).mono ?_
  rintro e w2 ⟨v, rfl, hv, hb2⟩
  have hp1 := (hb2.block _ (by omega)).trans hq1
  have hp0 := (hb2.block _ (by omega)).trans hq0
  have hbel2 : Below w.heap.size w w2 := hb1.trans (hb2.mono hb1.size)
  rw [hz1] at hv
  have hz2 : w.heap.size + 2 ≤ w2.heap.size := by have := hb2.size; omega
  clear hq1 hq0 hb1 hz1 hb0 hb2
  obtain ⟨A, c, rfl, hRl, hRd⟩ := Kd.R_reads hv
  have HV := Lib.hid (Kd.R_mono (Kd.R_bound hv) (fun k hk => hk.2.1) : Kd.R Kd.string 9 w2 (w.heap.size + 2) (fun k => w.heap.size + 2 ≤ k) (.slice A ps.length c) ps)
  have HRD := Lib.hid hRd
  clear hv hRd
  by_cases hl : ps.length = 3
  · have hl' : ((ps.length : Int) != 3) = false := by simp; omega
    have hl2 : ((ps.length : Int) == 3) = true := by simp; omega
    have c1 := cell_of_row hp1
    have HP0 := Lib.hid hp0
    have HP1 := Lib.hid hp1
    clear hp0 hp1
    have HL := Lib.hid hl
    clear hl
    cases dashed with
    | true =>
      go_wp2_with fail
      refine (pre_any p hps _ (HG.out.below hbel2)).mono ?_
      rintro e w3 ⟨rfl, hb3⟩
      have hbel3 := hbel2.trans (hb3.mono hbel2.size)
      have hz3 : w.heap.size + 2 ≤ w3.heap.size := by have := hb3.size; omega
      have HP03 := Lib.hid ((hb3.block _ (by omega)).trans HP0.out)
      have HP13 := Lib.hid ((hb3.block _ (by omega)).trans HP1.out)
      have HV3 := Lib.hid (Kd.R_below (HL.out ▸ HV.out : Kd.R Kd.string 9 w2 (w.heap.size + 2) (fun k => w.heap.size + 2 ≤ k) (.slice A 3 c) ps) hb3)
      clear hb3 hbel2 HV HP0 HP1 c1
      cases hpre : preB p with
      | false =>
        have hR := Lib.hid (HR1.out (.inr ⟨by simp, hpre⟩))
        have c0 := cell_of_row HP03.out
        have f0 := free_of_row HP03.out
        clear hpre
        go_wp2_with fail
        refine bodyPost_ret (v := .tuple #[.agg zv, .int .i64 10]) (by simp [results, Tryd.results13, go_sem, c0.1, c0.2.1, c0.2.2.1, c0.2.2.2]) rfl ?_
        rw [hR.out]
        exact ⟨rfl, bel4 hbel3⟩
      | true =>
        have HPRE := Lib.hid hpre
        clear hpre

        have hRg : Hid (R = goodV ps p) := Lib.hid (HR2.out (by intro h; rcases h with h | ⟨_, h⟩; exact h HL.out; rw [HPRE.out] at h; cases h))
        have hPb : w.heap.size + 1 < w3.heap.size := by omega
        have PR0 : Hid (PRel w A c w3.heap.size ps p 0 (w3.alloc (.cells #[.pointer (some ⟨w.heap.size + 1, 0, none⟩), .pointer (some ⟨w.heap.size + 1, 1, none⟩), .pointer (some ⟨w.heap.size + 1, 2, none⟩)] 50))) := by
          have ha : Below w3.heap.size w3 (w3.alloc (.cells #[.pointer (some ⟨w.heap.size + 1, 0, none⟩), .pointer (some ⟨w.heap.size + 1, 1, none⟩), .pointer (some ⟨w.heap.size + 1, 2, none⟩)] 50)) := (Below.refl _ w3).alloc (Nat.le_refl _) _
          exact Lib.hid ⟨rfl, (ha.block _ (by omega)).trans HP13.out, (ha.block _ (by omega)).trans HP03.out, World.alloc_heap_new _ _, Kd.R_below HV3.out ha, hbel3.trans (ha.mono hbel3.size)⟩
        go_wp2_with fail
        go_loopw [38] (fun i wr => ∃ k : Nat, k ≤ 3 ∧ i = .int .i64 k ∧ Hid (PRel w A c w3.heap.size ps p k wr)) (fun i _ => 3 - (intOf i).toNat)
        case atStart => exact ⟨0, by omega, rfl, PR0⟩
        case round =>
          obtain ⟨k, hk, rfl, HPR⟩ := hrel
          clear PR0 HV3 HP13 HP03
          by_cases hk3 : k < 3
          · obtain ⟨ad, rfl, hst⟩ := HPR.out.str k hk3
            obtain ⟨q, HQ⟩ : ∃ q, Hid (ps.getD k ByteArray.empty = q) := ⟨_, Lib.hid rfl⟩
            rw [HQ.out] at hst
            have hkl : k < ps.length := by rw [HL.out]; exact hk3
            have hpt : wr.cell? ⟨w3.heap.size, k, none⟩ = some (.pointer (some ⟨w.heap.size + 1, k, none⟩)) := by
              simp only [World.cell?, HPR.out.ptrs]
              obtain rfl | rfl | rfl : k = 0 ∨ k = 1 ∨ k = 2 := by omega
              all_goals rfl
            have dk : decide ((k : Int) < 3) = true := by simp; omega
            have HX := Lib.hid (fun W => number_any q W)
            go_wp2_with fail
            refine (HX.out _).mono ?_
            rintro e w5 ⟨rfl, hb5⟩
            have HPR5 := Lib.hid (HPR.out.below hb5)
            clear hb5
            obtain ⟨ad', e', hst5⟩ := HPR5.out.str k hk3
            cases e'
            rw [HQ.out] at hst5
            cases hnum : numP q with
            | false =>
              have hRb : Hid (R = badV) := Lib.hid (by
                rw [hRg.out]; unfold goodV
                rw [if_neg]
                intro h
                rw [List.all_eq_true] at h
                have := h q (by rw [← HQ.out]; rw [List.getD_eq_getElem?_getD, List.getElem?_eq_getElem (by rw [HL.out]; exact hk3)]; exact List.getElem_mem _)
                rw [hnum] at this; cases this)
              have c0 := cell_of_row HPR5.out.r
              have f0 := free_of_row HPR5.out.r
              clear hnum HX
              go_wp2_with fail
              refine bodyPost_ret (v := .tuple #[.agg zv, .int .i64 10]) (by simp [results, Tryd.results13, go_sem, c0.1, c0.2.1, c0.2.2.1, c0.2.2.2]) rfl ?_
              rw [hRb.out]
              exact ⟨rfl, bel4 HPR5.out.bel⟩
            | true =>
              have HN := Lib.hid hnum
              have HA := Lib.hid (fun W => atoi_any q hnum W)
              clear hnum HX
              go_wp2_with fail
              refine (HA.out _).mono ?_
              rintro e w6 ⟨rfl, hb6⟩
              have HPR6 := Lib.hid (HPR5.out.below hb6)
              clear hb6
              have c1' := cell_of_row HPR6.out.v
              have f1' := free_of_row HPR6.out.v
              have cv : ∃ x, w6.cell? ⟨w.heap.size + 1, k, none⟩ = some x := by
                obtain rfl | rfl | rfl : k = 0 ∨ k = 1 ∨ k = 2 := by omega
                · exact ⟨_, c1'.1⟩
                · exact ⟨_, c1'.2.1⟩
                · exact ⟨_, c1'.2.2.1⟩
              have fv : w6.frozen? ⟨w.heap.size + 1, k, none⟩ = false := by
                obtain rfl | rfl | rfl : k = 0 ∨ k = 1 ∨ k = 2 := by omega
                · exact f1'.1
                · exact f1'.2.1
                · exact f1'.2.2.1
              obtain ⟨xv, cv⟩ := cv
              have HS : Hid (PRel w (some ad) c w3.heap.size ps p (k + 1) (w6.setCell ⟨w.heap.size + 1, k, none⟩ (.int .i64 (valP q)))) := Lib.hid (by have := HPR6.out.step HL.out hk3 (by rw [HQ.out]; exact HN.out) hPb; rw [HQ.out] at this; exact this)
              clear c1' f1'
              go_wp2_with fail
              go_roundw
              case rel => exact ⟨k + 1, by omega, by go_num, HS⟩
              case measure => simp [intOf]; omega
          · obtain rfl : k = 3 := by omega
            have dk : decide (((3 : Nat) : Int) < 3) = false := by decide
            have hRv : Hid (R = (pv ps 3 0, pv ps 3 1, pv ps 3 2, p, 0)) := Lib.hid (by
              rw [hRg.out]; unfold goodV
              have hall : ps.all numP = true := by have := HPR.out.ok; rwa [List.take_of_length_le (by rw [HL.out]; exact Nat.le_refl _)] at this
              rw [if_pos hall]; rfl)
            have c0 := cell_of_row HPR.out.r
            have f0 := free_of_row HPR.out.r
            have c1' := cell_of_row HPR.out.v
            go_wp2_with fail
            refine bodyPost_ret (v := .tuple #[.agg #[.int .i64 (pv ps 3 0), .int .i64 (pv ps 3 1), .int .i64 (pv ps 3 2), .string p], .int .i64 0]) (by simp [results, Tryd.results13, go_sem, c0.1, c0.2.1, c0.2.2.1, c0.2.2.2]) rfl ?_
            rw [hRv.out]
            exact ⟨rfl, bel4 HPR.out.bel⟩
    | false =>
      obtain ⟨w3, rfl⟩ : ∃ w3 : World, w3 = w2 := ⟨_, rfl⟩
      have hbel3 := hbel2
      have hz3 := hz2
      have HP03 := HP0
      have HP13 := HP1
      have HV3 := Lib.hid (HL.out ▸ HV.out : Kd.R Kd.string 9 w3 (w.heap.size + 2) (fun k => w.heap.size + 2 ≤ k) (.slice A 3 c) ps)
      clear hbel2 HV HP0 HP1 c1

      have hRg : Hid (R = goodV ps p) := Lib.hid (HR2.out (by intro h; rcases h with h | ⟨h, _⟩; exact h HL.out; cases h))
      have hPb : w.heap.size + 1 < w3.heap.size := by omega
      have PR0 : Hid (PRel w A c w3.heap.size ps p 0 (w3.alloc (.cells #[.pointer (some ⟨w.heap.size + 1, 0, none⟩), .pointer (some ⟨w.heap.size + 1, 1, none⟩), .pointer (some ⟨w.heap.size + 1, 2, none⟩)] 50))) := by
        have ha : Below w3.heap.size w3 (w3.alloc (.cells #[.pointer (some ⟨w.heap.size + 1, 0, none⟩), .pointer (some ⟨w.heap.size + 1, 1, none⟩), .pointer (some ⟨w.heap.size + 1, 2, none⟩)] 50)) := (Below.refl _ w3).alloc (Nat.le_refl _) _
        exact Lib.hid ⟨rfl, (ha.block _ (by omega)).trans HP13.out, (ha.block _ (by omega)).trans HP03.out, World.alloc_heap_new _ _, Kd.R_below HV3.out ha, hbel3.trans (ha.mono hbel3.size)⟩
      go_wp2_with fail
      go_loopw [38] (fun i wr => ∃ k : Nat, k ≤ 3 ∧ i = .int .i64 k ∧ Hid (PRel w A c w3.heap.size ps p k wr)) (fun i _ => 3 - (intOf i).toNat)
      case atStart => exact ⟨0, by omega, rfl, PR0⟩
      case round =>
        obtain ⟨k, hk, rfl, HPR⟩ := hrel
        clear PR0 HV3 HP13 HP03
        by_cases hk3 : k < 3
        · obtain ⟨ad, rfl, hst⟩ := HPR.out.str k hk3
          obtain ⟨q, HQ⟩ : ∃ q, Hid (ps.getD k ByteArray.empty = q) := ⟨_, Lib.hid rfl⟩
          rw [HQ.out] at hst
          have hkl : k < ps.length := by rw [HL.out]; exact hk3
          have hpt : wr.cell? ⟨w3.heap.size, k, none⟩ = some (.pointer (some ⟨w.heap.size + 1, k, none⟩)) := by
            simp only [World.cell?, HPR.out.ptrs]
            obtain rfl | rfl | rfl : k = 0 ∨ k = 1 ∨ k = 2 := by omega
            all_goals rfl
          have dk : decide ((k : Int) < 3) = true := by simp; omega
          have HX := Lib.hid (fun W => number_any q W)
          go_wp2_with fail
          refine (HX.out _).mono ?_
          rintro e w5 ⟨rfl, hb5⟩
          have HPR5 := Lib.hid (HPR.out.below hb5)
          clear hb5
          obtain ⟨ad', e', hst5⟩ := HPR5.out.str k hk3
          cases e'
          rw [HQ.out] at hst5
          cases hnum : numP q with
          | false =>
            have hRb : Hid (R = badV) := Lib.hid (by
              rw [hRg.out]; unfold goodV
              rw [if_neg]
              intro h
              rw [List.all_eq_true] at h
              have := h q (by rw [← HQ.out]; rw [List.getD_eq_getElem?_getD, List.getElem?_eq_getElem (by rw [HL.out]; exact hk3)]; exact List.getElem_mem _)
              rw [hnum] at this; cases this)
            have c0 := cell_of_row HPR5.out.r
            have f0 := free_of_row HPR5.out.r
            clear hnum HX
            go_wp2_with fail
            refine bodyPost_ret (v := .tuple #[.agg zv, .int .i64 10]) (by simp [results, Tryd.results13, go_sem, c0.1, c0.2.1, c0.2.2.1, c0.2.2.2]) rfl ?_
            rw [hRb.out]
            exact ⟨rfl, bel4 HPR5.out.bel⟩
          | true =>
            have HN := Lib.hid hnum
            have HA := Lib.hid (fun W => atoi_any q hnum W)
            clear hnum HX
            go_wp2_with fail
            refine (HA.out _).mono ?_
            rintro e w6 ⟨rfl, hb6⟩
            have HPR6 := Lib.hid (HPR5.out.below hb6)
            clear hb6
            have c1' := cell_of_row HPR6.out.v
            have f1' := free_of_row HPR6.out.v
            have cv : ∃ x, w6.cell? ⟨w.heap.size + 1, k, none⟩ = some x := by
              obtain rfl | rfl | rfl : k = 0 ∨ k = 1 ∨ k = 2 := by omega
              · exact ⟨_, c1'.1⟩
              · exact ⟨_, c1'.2.1⟩
              · exact ⟨_, c1'.2.2.1⟩
            have fv : w6.frozen? ⟨w.heap.size + 1, k, none⟩ = false := by
              obtain rfl | rfl | rfl : k = 0 ∨ k = 1 ∨ k = 2 := by omega
              · exact f1'.1
              · exact f1'.2.1
              · exact f1'.2.2.1
            obtain ⟨xv, cv⟩ := cv
            have HS : Hid (PRel w (some ad) c w3.heap.size ps p (k + 1) (w6.setCell ⟨w.heap.size + 1, k, none⟩ (.int .i64 (valP q)))) := Lib.hid (by have := HPR6.out.step HL.out hk3 (by rw [HQ.out]; exact HN.out) hPb; rw [HQ.out] at this; exact this)
            clear c1' f1'
            go_wp2_with fail
            go_roundw
            case rel => exact ⟨k + 1, by omega, by go_num, HS⟩
            case measure => simp [intOf]; omega
        · obtain rfl : k = 3 := by omega
          have dk : decide (((3 : Nat) : Int) < 3) = false := by decide
          have hRv : Hid (R = (pv ps 3 0, pv ps 3 1, pv ps 3 2, p, 0)) := Lib.hid (by
            rw [hRg.out]; unfold goodV
            have hall : ps.all numP = true := by have := HPR.out.ok; rwa [List.take_of_length_le (by rw [HL.out]; exact Nat.le_refl _)] at this
            rw [if_pos hall]; rfl)
          have c0 := cell_of_row HPR.out.r
          have f0 := free_of_row HPR.out.r
          have c1' := cell_of_row HPR.out.v
          go_wp2_with fail
          refine bodyPost_ret (v := .tuple #[.agg #[.int .i64 (pv ps 3 0), .int .i64 (pv ps 3 1), .int .i64 (pv ps 3 2), .string p], .int .i64 0]) (by simp [results, Tryd.results13, go_sem, c0.1, c0.2.1, c0.2.2.1, c0.2.2.2]) rfl ?_
          rw [hRv.out]
          exact ⟨rfl, bel4 HPR.out.bel⟩
  · have hR := Lib.hid (HR1.out (.inl hl))
    have hl' : ((ps.length : Int) != 3) = true := by simp; omega
    have hl2 : ((ps.length : Int) == 3) = false := by simp; omega
    have c0 := cell_of_row hp0
    have f0 := free_of_row hp0
    clear hp0 hp1 hl
    go_wp2_with fail
    refine bodyPost_ret (v := .tuple #[.agg zv, .int .i64 10]) (by simp [results, Tryd.results13, go_sem, c0.1, c0.2.1, c0.2.2.1, c0.2.2.2]) rfl ?_
    rw [hR.out]
    exact ⟨rfl, bel4 hbel2⟩

theorem toBytes_size (l : List UInt8) : (toBytes l).size = l.length := by simp [toBytes, ByteArray.size]
theorem cut_le (l sep : List UInt8) : (Lib.cut l sep).1.length ≤ l.length ∧ (Lib.cut l sep).2.1.length ≤ l.length := by
  unfold Lib.cut
  split <;> simp <;> omega
theorem Parse_any (s : ByteArray) (hs : s.size < 4294967281) (w : World) (hG : Gw w) :
    Calls Tryd.prog 13 #[.string s] w (ParsePost w (parseV s)) := by
  have hl := data_length s
  have hc := cut_le s.data.toList [45]
  have h1 : strings_Cut.f s minus = some (toBytes (Lib.cut s.data.toList [45]).1, toBytes (Lib.cut s.data.toList [45]).2.1, (Lib.cut s.data.toList [45]).2.2) := by
    unfold strings_Cut.f; rw [if_pos hs]; rfl
  have h2 : strings_Split.f (toBytes (Lib.cut s.data.toList [45]).1) dot = some (pieces dot (toBytes (Lib.cut s.data.toList [45]).1)) := by
    unfold strings_Split.f; rw [if_pos ⟨by rw [toBytes_size]; omega, by decide⟩]; rfl
  refine Parse_walk s w hG _ _ _ h1 _ h2 (by rw [toBytes_size]; omega) _ ?_ ?_
  · intro h
    unfold parseV
    rw [if_pos (h.elim .inl (fun h => .inr (.inl h)))]; rfl
  · intro h
    unfold parseV goodV
    by_cases ha : (pieces dot (toBytes (Lib.cut s.data.toList [45]).1)).all numP = true
    · rw [if_neg (by rintro (h1 | h1 | h1); exact h (.inl h1); exact h (.inr h1); rw [ha] at h1; cases h1), if_pos ha]
    · rw [if_neg ha, if_pos (.inr (.inr (by simpa using ha)))]; rfl

/-! The program's functions as the printed texts call them. -/
def semver_number.f (s : ByteArray) : Option Bool := some (numP s)
theorem semver_number.calls (a0 : ByteArray) (r : Bool) (w : World) (h : semver_number.f a0 = some r) :
    Calls Tryd.prog 26 #[.string a0] w fun e w' => e = .returned (.bool r) ∧ Below w.heap.size w w' := by
  obtain rfl := Option.some.inj h; exact number_any a0 w
def semver_pre.f (s : ByteArray) : Option Bool := if s.size < 4294967281 then some (preB s) else none
theorem semver_pre.calls (a0 : ByteArray) (r : Bool) (w : World) (hG : Gw w) (h : semver_pre.f a0 = some r) :
    Calls Tryd.prog 25 #[.string a0] w fun e w' => e = .returned (.bool r) ∧ Below w.heap.size w w' := by
  unfold semver_pre.f at h
  split at h
  · rename_i hs; obtain rfl := Option.some.inj h; exact pre_any a0 hs w hG
  · cases h
def semver_Parse.f (s : ByteArray) : Option (Int × Int × Int × ByteArray × Int) := if s.size < 4294967281 then some (parseV s) else none
theorem semver_Parse.calls (a0 : ByteArray) (r1 r2 r3 : Int) (r4 : ByteArray) (r5 : Int) (w : World) (hG : Gw w) (h : semver_Parse.f a0 = some (r1, r2, r3, r4, r5)) :
    Calls Tryd.prog 13 #[.string a0] w fun e w' => e = .returned (.tuple #[.agg #[.int .i64 r1, .int .i64 r2, .int .i64 r3, .string r4], .int .i64 r5]) ∧ Below w.heap.size w w' := by
  unfold semver_Parse.f at h
  split at h
  · rename_i hs
    have h := Option.some.inj h
    refine (Parse_any a0 hs w hG).mono fun e w' hp => ?_
    unfold ParsePost at hp
    rw [h] at hp
    exact hp
  · cases h
end Go.Proofs.YtkilaemngejplaaDoor
