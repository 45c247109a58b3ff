/- semver.Version.Bump by hand: what it answers, without rounds. ranges.Comp.upper and ranges.Comp.has by hand. -/
import Derived.Test.YtckeeefeiljamaaGreatDoorXQ
import Derived.Test.YtckeeefeiljamaaGreatDoorXA
set_option linter.unusedSimpArgs false
set_option linter.unusedVariables false
namespace Go.Proofs.YtckeeefeiljamaaGreatDoor
open Go.RowKit Go.Lib Go.Shelf Go.Proofs.YtckeeefeiljamaaGreatDoorW.PrintWords

abbrev vC (a b c : Int) (p : ByteArray) : Array Value := #[.int .i64 a, .int .i64 b, .int .i64 c, .string p]
def BumpPost (w : World) (r : Int × Int × Int × ByteArray × Int) (e : Ending) (w' : World) : Prop :=
  e = .returned (.tuple #[.agg #[.int .i64 r.1, .int .i64 r.2.1, .int .i64 r.2.2.1, .string r.2.2.2.1], .int .i64 r.2.2.2.2]) ∧ Below w.heap.size w w'
theorem right_any (a b c : Int) (p : ByteArray) (h : tiny p) (w : World) (hG : Gw w) : Calls Tryz.prog 18 #[.agg #[.int .i64 a, .int .i64 b, .int .i64 c, .string p]] w fun e w' => e = .returned (.bool (rightB a b c p)) ∧ Below w.heap.size w w' := by
  obtain ⟨k, hk⟩ := (Right_E a b c p (by omega)).ex
  exact PSem.semver_Version_Right.calls k a b c p _ w hG hk

theorem fin_eqv (x y z : Int) : fin (x, y, z) = if rightB x y z nob = true then (x, y, z, nob, 0) else (0, 0, 0, nob, 11) := by
  rw [right_nob]; rfl
set_option maxHeartbeats 8000000 in
theorem Bump_walk (a b c : Int) (p : ByteArray) (t : Int) (w : World) (hG : Gw w) (hp : tiny p) : Calls Tryz.prog 64 #[.agg #[.int .i64 a, .int .i64 b, .int .i64 c, .string p], .int .i64 t] w (BumpPost w (bumpV a b c p t)) := by
  have HR := Lib.hid (fun W h => right_any a b c p hp W h)
  have HN := Lib.hid (fun x y z W h => right_any x y z nob (by decide) W h)
  have HG := Lib.hid hG
  have B0 : Hid (Below w.heap.size w ((w.alloc (.cells (vC a b c p) 38)).alloc (.cells (vC 0 0 0 nob) 38))) := Lib.hid (((Below.refl _ w).alloc (Nat.le_refl _) _).alloc (by simp) _)
  have hv : ((w.alloc (.cells (vC a b c p) 38)).alloc (.cells (vC 0 0 0 nob) 38)).heap[w.heap.size]? = some (.cells (vC a b c p) 38 (0, 0)) := (Below.heap_alloc _ _ _ (by simp)).trans (World.alloc_heap_new _ _)
  have hr : ((w.alloc (.cells (vC a b c p) 38)).alloc (.cells (vC 0 0 0 nob) 38)).heap[w.heap.size + 1]? = some (.cells (vC 0 0 0 nob) 38 (0, 0)) := by
    have := World.alloc_heap_new (w.alloc (.cells (vC a b c p) 38)) (.cells (vC 0 0 0 nob) 38); rwa [World.size_alloc] at this
  have MK := Lib.hid (fun w1 (h : Below ((w.alloc (.cells (vC a b c p) 38)).alloc (.cells (vC 0 0 0 nob) 38)).heap.size ((w.alloc (.cells (vC a b c p) 38)).alloc (.cells (vC 0 0 0 nob) 38)) w1) =>
    (⟨B0.out.trans (h.mono B0.out.size), (h.block _ (by simp; omega)).trans hv, (h.block _ (by simp)).trans hr⟩ : Below w.heap.size w w1 ∧ w1.heap[w.heap.size]? = some (.cells (vC a b c p) 38 (0, 0)) ∧ w1.heap[w.heap.size + 1]? = some (.cells (vC 0 0 0 nob) 38 (0, 0))))
  clear hG hv hr
  have hne : w.heap.size + 1 ≠ w.heap.size := by omega
  have hne2 : w.heap.size ≠ w.heap.size + 1 := by omega
  generalize hq : rightB a b c p = q at HR
  have start : ∀ (K : Prop), K → K := fun _ h => h
  cases q with
  | false =>
    have hv : Hid (bumpV a b c p t = (0, 0, 0, nob, 12)) := Lib.hid (by unfold bumpV; rw [if_neg (by rw [hq]; simp)])
    clear hq
    rw [hv.out]
    go_enter Tryz.func64, Tryz.ntmps64
    go_wp2_with fail
    refine (HR.out _ (HG.out.below B0.out)).mono ?_
    rintro e w1 ⟨rfl, hb1⟩
    obtain ⟨h1, h2, h3⟩ := MK.out w1 hb1
    have c0 := cell_of_row h3
    have f0 := free_of_row h3
    have H1 := Lib.hid h1
    clear hb1 h1 h2 h3
    go_wp2_with fail
    refine bodyPost_ret (v := .tuple #[.agg (vC 0 0 0 nob), .int .i64 12]) (by simp [results, Tryz.results64, go_sem, c0.1, c0.2.1, c0.2.2.1, c0.2.2.2]) rfl ?_
    exact ⟨rfl, ((((H1.out.setCell (p := ⟨w.heap.size + 1, 0, none⟩) (by show w.heap.size ≤ w.heap.size + 1; omega) _).setCell (p := ⟨w.heap.size + 1, 1, none⟩) (by show w.heap.size ≤ w.heap.size + 1; omega) _).setCell (p := ⟨w.heap.size + 1, 2, none⟩) (by show w.heap.size ≤ w.heap.size + 1; omega) _).setCell (p := ⟨w.heap.size + 1, 3, none⟩) (by show w.heap.size ≤ w.heap.size + 1; omega) _)⟩
  | true =>
    have form : ¬ (0 ≤ t ∧ t ≤ 2) → bumpV a b c p t = (0, 0, 0, nob, 12) := fun h => by unfold bumpV; rw [if_neg (fun e => h e.2)]
    have good : 0 ≤ t → t ≤ 2 → bumpV a b c p t = fin (nxt a b c p t) := fun h0 h2 => by unfold bumpV; rw [if_pos ⟨hq, h0, h2⟩]
    obtain ⟨ha, hb, hc, _⟩ := rightB_iff.1 hq
    rw [inN_iff] at ha hb hc
    clear hq
    by_cases t0 : t < 0
    · have d0 : decide (t < 0) = true := decide_eq_true t0
      have hv := Lib.hid (form (by omega))
      skip
      rw [hv.out]
      clear form good ha hb hc
      go_enter Tryz.func64, Tryz.ntmps64
      go_wp2_with fail
      refine (HR.out _ (HG.out.below B0.out)).mono ?_
      rintro e w1 ⟨rfl, hb1⟩
      obtain ⟨h1, h2, h3⟩ := MK.out w1 hb1
      have c0 := cell_of_row h3
      have f0 := free_of_row h3
      have H1 := Lib.hid h1
      clear hb1 h1 h2 h3
      go_wp2_with fail
      refine bodyPost_ret (v := .tuple #[.agg (vC 0 0 0 nob), .int .i64 12]) (by simp [results, Tryz.results64, go_sem, c0.1, c0.2.1, c0.2.2.1, c0.2.2.2]) rfl ?_
      exact ⟨rfl, ((((H1.out.setCell (p := ⟨w.heap.size + 1, 0, none⟩) (by show w.heap.size ≤ w.heap.size + 1; omega) _).setCell (p := ⟨w.heap.size + 1, 1, none⟩) (by show w.heap.size ≤ w.heap.size + 1; omega) _).setCell (p := ⟨w.heap.size + 1, 2, none⟩) (by show w.heap.size ≤ w.heap.size + 1; omega) _).setCell (p := ⟨w.heap.size + 1, 3, none⟩) (by show w.heap.size ≤ w.heap.size + 1; omega) _)⟩
    have d0 : decide (t < 0) = false := decide_eq_false t0
    by_cases t2 : t > 2
    · have d2 : decide (t > 2) = true := decide_eq_true t2
      have d2' : decide ((2 : Int) < t) = true := decide_eq_true t2
      have hv := Lib.hid (form (by omega))
      clear t0
      rw [hv.out]
      clear form good ha hb hc
      go_enter Tryz.func64, Tryz.ntmps64
      go_wp2_with fail
      refine (HR.out _ (HG.out.below B0.out)).mono ?_
      rintro e w1 ⟨rfl, hb1⟩
      obtain ⟨h1, h2, h3⟩ := MK.out w1 hb1
      have c0 := cell_of_row h3
      have f0 := free_of_row h3
      have H1 := Lib.hid h1
      clear hb1 h1 h2 h3
      go_wp2_with fail
      refine bodyPost_ret (v := .tuple #[.agg (vC 0 0 0 nob), .int .i64 12]) (by simp [results, Tryz.results64, go_sem, c0.1, c0.2.1, c0.2.2.1, c0.2.2.2]) rfl ?_
      exact ⟨rfl, ((((H1.out.setCell (p := ⟨w.heap.size + 1, 0, none⟩) (by show w.heap.size ≤ w.heap.size + 1; omega) _).setCell (p := ⟨w.heap.size + 1, 1, none⟩) (by show w.heap.size ≤ w.heap.size + 1; omega) _).setCell (p := ⟨w.heap.size + 1, 2, none⟩) (by show w.heap.size ≤ w.heap.size + 1; omega) _).setCell (p := ⟨w.heap.size + 1, 3, none⟩) (by show w.heap.size ≤ w.heap.size + 1; omega) _)⟩
    have d2 : decide (t > 2) = false := decide_eq_false t2
    have d2' : decide ((2 : Int) < t) = false := decide_eq_false t2
    have hgood := Lib.hid (good (by omega) (by omega))
    clear form good
    by_cases e0 : t = 0
    · subst e0
      have hv : Hid (bumpV a b c p 0 = fin ((a + 1), 0, 0)) := Lib.hid (by rw [hgood.out]; unfold nxt; rw [if_pos rfl])
      have HN' := Lib.hid (fun W h => HN.out ((a + 1)) (0) (0) W h)
      rw [hv.out, fin_eqv]
      have wa : wrap64 (a + 1) = a + 1 := wrap_id (by omega)
      clear hgood hv ha hb hc t0 t2 HN
      generalize rightB ((a + 1)) (0) (0) nob = q2 at HN' ⊢
      cases q2 with
      | false =>
        go_enter Tryz.func64, Tryz.ntmps64
        go_wp2_with fail
        refine (HR.out _ (HG.out.below B0.out)).mono ?_
        rintro e w1 ⟨rfl, hb1⟩
        obtain ⟨h1, h2, h3⟩ := MK.out w1 hb1
        have c0 := cell_of_row h2
        have f0 := free_of_row h2
        have H1 := Lib.hid h1
        have H2 := Lib.hid h2
        have H3 := Lib.hid h3
        clear hb1 h1 h2 h3
        go_wp2_with fail
        have hb2 : Below w.heap.size w ((((w1.setCell ⟨w.heap.size, 0, none⟩ (.int .i64 (a + 1))).setCell ⟨w.heap.size, 1, none⟩ (.int .i64 0)).setCell ⟨w.heap.size, 2, none⟩ (.int .i64 0)).setCell ⟨w.heap.size, 3, none⟩ (.string nob)) := ((((H1.out.setCell (p := ⟨w.heap.size, 0, none⟩) (Nat.le_refl _) _).setCell (p := ⟨w.heap.size, 1, none⟩) (Nat.le_refl _) _).setCell (p := ⟨w.heap.size, 2, none⟩) (Nat.le_refl _) _).setCell (p := ⟨w.heap.size, 3, none⟩) (Nat.le_refl _) _)
        have g2 : ((((w1.setCell ⟨w.heap.size, 0, none⟩ (.int .i64 (a + 1))).setCell ⟨w.heap.size, 1, none⟩ (.int .i64 0)).setCell ⟨w.heap.size, 2, none⟩ (.int .i64 0)).setCell ⟨w.heap.size, 3, none⟩ (.string nob)).heap[w.heap.size]? = some (.cells (vC ((a + 1)) (0) (0) nob) 38 (0, 0)) := by simp [World.setCell, Array.getElem?_modify, H2.out]
        have g3 : ((((w1.setCell ⟨w.heap.size, 0, none⟩ (.int .i64 (a + 1))).setCell ⟨w.heap.size, 1, none⟩ (.int .i64 0)).setCell ⟨w.heap.size, 2, none⟩ (.int .i64 0)).setCell ⟨w.heap.size, 3, none⟩ (.string nob)).heap[w.heap.size + 1]? = some (.cells (vC 0 0 0 nob) 38 (0, 0)) := by refine (Below.heap_setCell _ _ _ _ (by show w.heap.size + 1 ≠ w.heap.size; omega)).trans ?_; refine (Below.heap_setCell _ _ _ _ (by show w.heap.size + 1 ≠ w.heap.size; omega)).trans ?_; refine (Below.heap_setCell _ _ _ _ (by show w.heap.size + 1 ≠ w.heap.size; omega)).trans ?_; refine (Below.heap_setCell _ _ _ _ (by show w.heap.size + 1 ≠ w.heap.size; omega)).trans ?_; exact H3.out
        generalize hW : ((((w1.setCell ⟨w.heap.size, 0, none⟩ (.int .i64 (a + 1))).setCell ⟨w.heap.size, 1, none⟩ (.int .i64 0)).setCell ⟨w.heap.size, 2, none⟩ (.int .i64 0)).setCell ⟨w.heap.size, 3, none⟩ (.string nob)) = W2 at *
        refine (HN'.out W2 (HG.out.below hb2)).mono ?_
        rintro e w3 ⟨rfl, hb3⟩
        have G2 := (hb3.block _ (Array.getElem?_eq_some_iff.1 g2).1).trans g2
        have G3 := (hb3.block _ (Array.getElem?_eq_some_iff.1 g3).1).trans g3
        have H4 := Lib.hid (hb2.trans (hb3.mono hb2.size))
        clear hW hb2 hb3 g2 g3 c0 f0
        have c0 := cell_of_row G3
        have f0 := free_of_row G3
        have c1 := cell_of_row G2
        clear G2 G3
        go_wp2_with fail
        refine bodyPost_ret (v := .tuple #[.agg (vC 0 0 0 nob), .int .i64 11]) (by simp [results, Tryz.results64, go_sem, c0.1, c0.2.1, c0.2.2.1, c0.2.2.2]) rfl ?_
        exact ⟨rfl, ((((H4.out.setCell (p := ⟨w.heap.size + 1, 0, none⟩) (by show w.heap.size ≤ w.heap.size + 1; omega) _).setCell (p := ⟨w.heap.size + 1, 1, none⟩) (by show w.heap.size ≤ w.heap.size + 1; omega) _).setCell (p := ⟨w.heap.size + 1, 2, none⟩) (by show w.heap.size ≤ w.heap.size + 1; omega) _).setCell (p := ⟨w.heap.size + 1, 3, none⟩) (by show w.heap.size ≤ w.heap.size + 1; omega) _)⟩
      | true =>
        go_enter Tryz.func64, Tryz.ntmps64
        go_wp2_with fail
        refine (HR.out _ (HG.out.below B0.out)).mono ?_
        rintro e w1 ⟨rfl, hb1⟩
        obtain ⟨h1, h2, h3⟩ := MK.out w1 hb1
        have c0 := cell_of_row h2
        have f0 := free_of_row h2
        have H1 := Lib.hid h1
        have H2 := Lib.hid h2
        have H3 := Lib.hid h3
        clear hb1 h1 h2 h3
        go_wp2_with fail
        have hb2 : Below w.heap.size w ((((w1.setCell ⟨w.heap.size, 0, none⟩ (.int .i64 (a + 1))).setCell ⟨w.heap.size, 1, none⟩ (.int .i64 0)).setCell ⟨w.heap.size, 2, none⟩ (.int .i64 0)).setCell ⟨w.heap.size, 3, none⟩ (.string nob)) := ((((H1.out.setCell (p := ⟨w.heap.size, 0, none⟩) (Nat.le_refl _) _).setCell (p := ⟨w.heap.size, 1, none⟩) (Nat.le_refl _) _).setCell (p := ⟨w.heap.size, 2, none⟩) (Nat.le_refl _) _).setCell (p := ⟨w.heap.size, 3, none⟩) (Nat.le_refl _) _)
        have g2 : ((((w1.setCell ⟨w.heap.size, 0, none⟩ (.int .i64 (a + 1))).setCell ⟨w.heap.size, 1, none⟩ (.int .i64 0)).setCell ⟨w.heap.size, 2, none⟩ (.int .i64 0)).setCell ⟨w.heap.size, 3, none⟩ (.string nob)).heap[w.heap.size]? = some (.cells (vC ((a + 1)) (0) (0) nob) 38 (0, 0)) := by simp [World.setCell, Array.getElem?_modify, H2.out]
        have g3 : ((((w1.setCell ⟨w.heap.size, 0, none⟩ (.int .i64 (a + 1))).setCell ⟨w.heap.size, 1, none⟩ (.int .i64 0)).setCell ⟨w.heap.size, 2, none⟩ (.int .i64 0)).setCell ⟨w.heap.size, 3, none⟩ (.string nob)).heap[w.heap.size + 1]? = some (.cells (vC 0 0 0 nob) 38 (0, 0)) := by refine (Below.heap_setCell _ _ _ _ (by show w.heap.size + 1 ≠ w.heap.size; omega)).trans ?_; refine (Below.heap_setCell _ _ _ _ (by show w.heap.size + 1 ≠ w.heap.size; omega)).trans ?_; refine (Below.heap_setCell _ _ _ _ (by show w.heap.size + 1 ≠ w.heap.size; omega)).trans ?_; refine (Below.heap_setCell _ _ _ _ (by show w.heap.size + 1 ≠ w.heap.size; omega)).trans ?_; exact H3.out
        generalize hW : ((((w1.setCell ⟨w.heap.size, 0, none⟩ (.int .i64 (a + 1))).setCell ⟨w.heap.size, 1, none⟩ (.int .i64 0)).setCell ⟨w.heap.size, 2, none⟩ (.int .i64 0)).setCell ⟨w.heap.size, 3, none⟩ (.string nob)) = W2 at *
        refine (HN'.out W2 (HG.out.below hb2)).mono ?_
        rintro e w3 ⟨rfl, hb3⟩
        have G2 := (hb3.block _ (Array.getElem?_eq_some_iff.1 g2).1).trans g2
        have G3 := (hb3.block _ (Array.getElem?_eq_some_iff.1 g3).1).trans g3
        have H4 := Lib.hid (hb2.trans (hb3.mono hb2.size))
        clear hW hb2 hb3 g2 g3 c0 f0
        have c0 := cell_of_row G3
        have f0 := free_of_row G3
        have c1 := cell_of_row G2
        clear G2 G3
        go_wp2_with fail
        refine bodyPost_ret (v := .tuple #[.agg (vC ((a + 1)) (0) (0) nob), .int .i64 0]) (by simp [results, Tryz.results64, go_sem, c0.1, c0.2.1, c0.2.2.1, c0.2.2.2]) rfl ?_
        exact ⟨rfl, ((((H4.out.setCell (p := ⟨w.heap.size + 1, 0, none⟩) (by show w.heap.size ≤ w.heap.size + 1; omega) _).setCell (p := ⟨w.heap.size + 1, 1, none⟩) (by show w.heap.size ≤ w.heap.size + 1; omega) _).setCell (p := ⟨w.heap.size + 1, 2, none⟩) (by show w.heap.size ≤ w.heap.size + 1; omega) _).setCell (p := ⟨w.heap.size + 1, 3, none⟩) (by show w.heap.size ≤ w.heap.size + 1; omega) _)⟩
    have e0b : (t == 0) = false := beq_eq_false_iff_ne.2 e0
    by_cases e1 : t = 1
    · subst e1
      have hv : Hid (bumpV a b c p 1 = fin (a, (b + 1), 0)) := Lib.hid (by rw [hgood.out]; unfold nxt; rw [if_neg (by omega), if_pos rfl])
      have HN' := Lib.hid (fun W h => HN.out (a) ((b + 1)) (0) W h)
      rw [hv.out, fin_eqv]
      have wb : wrap64 (b + 1) = b + 1 := wrap_id (by omega)
      clear hgood hv ha hb hc t0 t2 HN
      generalize rightB (a) ((b + 1)) (0) nob = q2 at HN' ⊢
      cases q2 with
      | false =>
        go_enter Tryz.func64, Tryz.ntmps64
        go_wp2_with fail
        refine (HR.out _ (HG.out.below B0.out)).mono ?_
        rintro e w1 ⟨rfl, hb1⟩
        obtain ⟨h1, h2, h3⟩ := MK.out w1 hb1
        have c0 := cell_of_row h2
        have f0 := free_of_row h2
        have H1 := Lib.hid h1
        have H2 := Lib.hid h2
        have H3 := Lib.hid h3
        clear hb1 h1 h2 h3
        go_wp2_with fail
        have hb2 : Below w.heap.size w (((w1.setCell ⟨w.heap.size, 1, none⟩ (.int .i64 (b + 1))).setCell ⟨w.heap.size, 2, none⟩ (.int .i64 0)).setCell ⟨w.heap.size, 3, none⟩ (.string nob)) := (((H1.out.setCell (p := ⟨w.heap.size, 1, none⟩) (Nat.le_refl _) _).setCell (p := ⟨w.heap.size, 2, none⟩) (Nat.le_refl _) _).setCell (p := ⟨w.heap.size, 3, none⟩) (Nat.le_refl _) _)
        have g2 : (((w1.setCell ⟨w.heap.size, 1, none⟩ (.int .i64 (b + 1))).setCell ⟨w.heap.size, 2, none⟩ (.int .i64 0)).setCell ⟨w.heap.size, 3, none⟩ (.string nob)).heap[w.heap.size]? = some (.cells (vC (a) ((b + 1)) (0) nob) 38 (0, 0)) := by simp [World.setCell, Array.getElem?_modify, H2.out]
        have g3 : (((w1.setCell ⟨w.heap.size, 1, none⟩ (.int .i64 (b + 1))).setCell ⟨w.heap.size, 2, none⟩ (.int .i64 0)).setCell ⟨w.heap.size, 3, none⟩ (.string nob)).heap[w.heap.size + 1]? = some (.cells (vC 0 0 0 nob) 38 (0, 0)) := by refine (Below.heap_setCell _ _ _ _ (by show w.heap.size + 1 ≠ w.heap.size; omega)).trans ?_; refine (Below.heap_setCell _ _ _ _ (by show w.heap.size + 1 ≠ w.heap.size; omega)).trans ?_; refine (Below.heap_setCell _ _ _ _ (by show w.heap.size + 1 ≠ w.heap.size; omega)).trans ?_; exact H3.out
        generalize hW : (((w1.setCell ⟨w.heap.size, 1, none⟩ (.int .i64 (b + 1))).setCell ⟨w.heap.size, 2, none⟩ (.int .i64 0)).setCell ⟨w.heap.size, 3, none⟩ (.string nob)) = W2 at *
        refine (HN'.out W2 (HG.out.below hb2)).mono ?_
        rintro e w3 ⟨rfl, hb3⟩
        have G2 := (hb3.block _ (Array.getElem?_eq_some_iff.1 g2).1).trans g2
        have G3 := (hb3.block _ (Array.getElem?_eq_some_iff.1 g3).1).trans g3
        have H4 := Lib.hid (hb2.trans (hb3.mono hb2.size))
        clear hW hb2 hb3 g2 g3 c0 f0
        have c0 := cell_of_row G3
        have f0 := free_of_row G3
        have c1 := cell_of_row G2
        clear G2 G3
        go_wp2_with fail
        refine bodyPost_ret (v := .tuple #[.agg (vC 0 0 0 nob), .int .i64 11]) (by simp [results, Tryz.results64, go_sem, c0.1, c0.2.1, c0.2.2.1, c0.2.2.2]) rfl ?_
        exact ⟨rfl, ((((H4.out.setCell (p := ⟨w.heap.size + 1, 0, none⟩) (by show w.heap.size ≤ w.heap.size + 1; omega) _).setCell (p := ⟨w.heap.size + 1, 1, none⟩) (by show w.heap.size ≤ w.heap.size + 1; omega) _).setCell (p := ⟨w.heap.size + 1, 2, none⟩) (by show w.heap.size ≤ w.heap.size + 1; omega) _).setCell (p := ⟨w.heap.size + 1, 3, none⟩) (by show w.heap.size ≤ w.heap.size + 1; omega) _)⟩
      | true =>
        go_enter Tryz.func64, Tryz.ntmps64
        go_wp2_with fail
        refine (HR.out _ (HG.out.below B0.out)).mono ?_
        rintro e w1 ⟨rfl, hb1⟩
        obtain ⟨h1, h2, h3⟩ := MK.out w1 hb1
        have c0 := cell_of_row h2
        have f0 := free_of_row h2
        have H1 := Lib.hid h1
        have H2 := Lib.hid h2
        have H3 := Lib.hid h3
        clear hb1 h1 h2 h3
        go_wp2_with fail
        have hb2 : Below w.heap.size w (((w1.setCell ⟨w.heap.size, 1, none⟩ (.int .i64 (b + 1))).setCell ⟨w.heap.size, 2, none⟩ (.int .i64 0)).setCell ⟨w.heap.size, 3, none⟩ (.string nob)) := (((H1.out.setCell (p := ⟨w.heap.size, 1, none⟩) (Nat.le_refl _) _).setCell (p := ⟨w.heap.size, 2, none⟩) (Nat.le_refl _) _).setCell (p := ⟨w.heap.size, 3, none⟩) (Nat.le_refl _) _)
        have g2 : (((w1.setCell ⟨w.heap.size, 1, none⟩ (.int .i64 (b + 1))).setCell ⟨w.heap.size, 2, none⟩ (.int .i64 0)).setCell ⟨w.heap.size, 3, none⟩ (.string nob)).heap[w.heap.size]? = some (.cells (vC (a) ((b + 1)) (0) nob) 38 (0, 0)) := by simp [World.setCell, Array.getElem?_modify, H2.out]
        have g3 : (((w1.setCell ⟨w.heap.size, 1, none⟩ (.int .i64 (b + 1))).setCell ⟨w.heap.size, 2, none⟩ (.int .i64 0)).setCell ⟨w.heap.size, 3, none⟩ (.string nob)).heap[w.heap.size + 1]? = some (.cells (vC 0 0 0 nob) 38 (0, 0)) := by refine (Below.heap_setCell _ _ _ _ (by show w.heap.size + 1 ≠ w.heap.size; omega)).trans ?_; refine (Below.heap_setCell _ _ _ _ (by show w.heap.size + 1 ≠ w.heap.size; omega)).trans ?_; refine (Below.heap_setCell _ _ _ _ (by show w.heap.size + 1 ≠ w.heap.size; omega)).trans ?_; exact H3.out
        generalize hW : (((w1.setCell ⟨w.heap.size, 1, none⟩ (.int .i64 (b + 1))).setCell ⟨w.heap.size, 2, none⟩ (.int .i64 0)).setCell ⟨w.heap.size, 3, none⟩ (.string nob)) = W2 at *
        refine (HN'.out W2 (HG.out.below hb2)).mono ?_
        rintro e w3 ⟨rfl, hb3⟩
        have G2 := (hb3.block _ (Array.getElem?_eq_some_iff.1 g2).1).trans g2
        have G3 := (hb3.block _ (Array.getElem?_eq_some_iff.1 g3).1).trans g3
        have H4 := Lib.hid (hb2.trans (hb3.mono hb2.size))
        clear hW hb2 hb3 g2 g3 c0 f0
        have c0 := cell_of_row G3
        have f0 := free_of_row G3
        have c1 := cell_of_row G2
        clear G2 G3
        go_wp2_with fail
        refine bodyPost_ret (v := .tuple #[.agg (vC (a) ((b + 1)) (0) nob), .int .i64 0]) (by simp [results, Tryz.results64, go_sem, c0.1, c0.2.1, c0.2.2.1, c0.2.2.2]) rfl ?_
        exact ⟨rfl, ((((H4.out.setCell (p := ⟨w.heap.size + 1, 0, none⟩) (by show w.heap.size ≤ w.heap.size + 1; omega) _).setCell (p := ⟨w.heap.size + 1, 1, none⟩) (by show w.heap.size ≤ w.heap.size + 1; omega) _).setCell (p := ⟨w.heap.size + 1, 2, none⟩) (by show w.heap.size ≤ w.heap.size + 1; omega) _).setCell (p := ⟨w.heap.size + 1, 3, none⟩) (by show w.heap.size ≤ w.heap.size + 1; omega) _)⟩
    have e1b : (t == 1) = false := beq_eq_false_iff_ne.2 e1
    by_cases ep : p.toList = []
    · have ep1 : (p.toList == ([] : List UInt8)) = true := beq_iff_eq.2 ep
      have ep2 : p.toList.isEmpty = true := List.isEmpty_iff.2 ep
      have hv : Hid (bumpV a b c p t = fin (a, b, (c + 1))) := Lib.hid (by rw [hgood.out]; unfold nxt; rw [if_neg e0, if_neg e1, if_pos ep])
      have HN' := Lib.hid (fun W h => HN.out (a) (b) ((c + 1)) W h)
      rw [hv.out, fin_eqv]
      have wc : wrap64 (c + 1) = c + 1 := wrap_id (by omega)
      clear hgood hv ha hb hc t0 t2 HN
      generalize rightB (a) (b) ((c + 1)) nob = q2 at HN' ⊢
      cases q2 with
      | false =>
        go_enter Tryz.func64, Tryz.ntmps64
        go_wp2_with fail
        refine (HR.out _ (HG.out.below B0.out)).mono ?_
        rintro e w1 ⟨rfl, hb1⟩
        obtain ⟨h1, h2, h3⟩ := MK.out w1 hb1
        have c0 := cell_of_row h2
        have f0 := free_of_row h2
        have H1 := Lib.hid h1
        have H2 := Lib.hid h2
        have H3 := Lib.hid h3
        clear hb1 h1 h2 h3
        go_wp2_with fail
        have hb2 : Below w.heap.size w ((w1.setCell ⟨w.heap.size, 2, none⟩ (.int .i64 (c + 1))).setCell ⟨w.heap.size, 3, none⟩ (.string nob)) := ((H1.out.setCell (p := ⟨w.heap.size, 2, none⟩) (Nat.le_refl _) _).setCell (p := ⟨w.heap.size, 3, none⟩) (Nat.le_refl _) _)
        have g2 : ((w1.setCell ⟨w.heap.size, 2, none⟩ (.int .i64 (c + 1))).setCell ⟨w.heap.size, 3, none⟩ (.string nob)).heap[w.heap.size]? = some (.cells (vC (a) (b) ((c + 1)) nob) 38 (0, 0)) := by simp [World.setCell, Array.getElem?_modify, H2.out]
        have g3 : ((w1.setCell ⟨w.heap.size, 2, none⟩ (.int .i64 (c + 1))).setCell ⟨w.heap.size, 3, none⟩ (.string nob)).heap[w.heap.size + 1]? = some (.cells (vC 0 0 0 nob) 38 (0, 0)) := by refine (Below.heap_setCell _ _ _ _ (by show w.heap.size + 1 ≠ w.heap.size; omega)).trans ?_; refine (Below.heap_setCell _ _ _ _ (by show w.heap.size + 1 ≠ w.heap.size; omega)).trans ?_; exact H3.out
        generalize hW : ((w1.setCell ⟨w.heap.size, 2, none⟩ (.int .i64 (c + 1))).setCell ⟨w.heap.size, 3, none⟩ (.string nob)) = W2 at *
        refine (HN'.out W2 (HG.out.below hb2)).mono ?_
        rintro e w3 ⟨rfl, hb3⟩
        have G2 := (hb3.block _ (Array.getElem?_eq_some_iff.1 g2).1).trans g2
        have G3 := (hb3.block _ (Array.getElem?_eq_some_iff.1 g3).1).trans g3
        have H4 := Lib.hid (hb2.trans (hb3.mono hb2.size))
        clear hW hb2 hb3 g2 g3 c0 f0
        have c0 := cell_of_row G3
        have f0 := free_of_row G3
        have c1 := cell_of_row G2
        clear G2 G3
        go_wp2_with fail
        refine bodyPost_ret (v := .tuple #[.agg (vC 0 0 0 nob), .int .i64 11]) (by simp [results, Tryz.results64, go_sem, c0.1, c0.2.1, c0.2.2.1, c0.2.2.2]) rfl ?_
        exact ⟨rfl, ((((H4.out.setCell (p := ⟨w.heap.size + 1, 0, none⟩) (by show w.heap.size ≤ w.heap.size + 1; omega) _).setCell (p := ⟨w.heap.size + 1, 1, none⟩) (by show w.heap.size ≤ w.heap.size + 1; omega) _).setCell (p := ⟨w.heap.size + 1, 2, none⟩) (by show w.heap.size ≤ w.heap.size + 1; omega) _).setCell (p := ⟨w.heap.size + 1, 3, none⟩) (by show w.heap.size ≤ w.heap.size + 1; omega) _)⟩
      | true =>
        go_enter Tryz.func64, Tryz.ntmps64
        go_wp2_with fail
        refine (HR.out _ (HG.out.below B0.out)).mono ?_
        rintro e w1 ⟨rfl, hb1⟩
        obtain ⟨h1, h2, h3⟩ := MK.out w1 hb1
        have c0 := cell_of_row h2
        have f0 := free_of_row h2
        have H1 := Lib.hid h1
        have H2 := Lib.hid h2
        have H3 := Lib.hid h3
        clear hb1 h1 h2 h3
        go_wp2_with fail
        have hb2 : Below w.heap.size w ((w1.setCell ⟨w.heap.size, 2, none⟩ (.int .i64 (c + 1))).setCell ⟨w.heap.size, 3, none⟩ (.string nob)) := ((H1.out.setCell (p := ⟨w.heap.size, 2, none⟩) (Nat.le_refl _) _).setCell (p := ⟨w.heap.size, 3, none⟩) (Nat.le_refl _) _)
        have g2 : ((w1.setCell ⟨w.heap.size, 2, none⟩ (.int .i64 (c + 1))).setCell ⟨w.heap.size, 3, none⟩ (.string nob)).heap[w.heap.size]? = some (.cells (vC (a) (b) ((c + 1)) nob) 38 (0, 0)) := by simp [World.setCell, Array.getElem?_modify, H2.out]
        have g3 : ((w1.setCell ⟨w.heap.size, 2, none⟩ (.int .i64 (c + 1))).setCell ⟨w.heap.size, 3, none⟩ (.string nob)).heap[w.heap.size + 1]? = some (.cells (vC 0 0 0 nob) 38 (0, 0)) := by refine (Below.heap_setCell _ _ _ _ (by show w.heap.size + 1 ≠ w.heap.size; omega)).trans ?_; refine (Below.heap_setCell _ _ _ _ (by show w.heap.size + 1 ≠ w.heap.size; omega)).trans ?_; exact H3.out
        generalize hW : ((w1.setCell ⟨w.heap.size, 2, none⟩ (.int .i64 (c + 1))).setCell ⟨w.heap.size, 3, none⟩ (.string nob)) = W2 at *
        refine (HN'.out W2 (HG.out.below hb2)).mono ?_
        rintro e w3 ⟨rfl, hb3⟩
        have G2 := (hb3.block _ (Array.getElem?_eq_some_iff.1 g2).1).trans g2
        have G3 := (hb3.block _ (Array.getElem?_eq_some_iff.1 g3).1).trans g3
        have H4 := Lib.hid (hb2.trans (hb3.mono hb2.size))
        clear hW hb2 hb3 g2 g3 c0 f0
        have c0 := cell_of_row G3
        have f0 := free_of_row G3
        have c1 := cell_of_row G2
        clear G2 G3
        go_wp2_with fail
        refine bodyPost_ret (v := .tuple #[.agg (vC (a) (b) ((c + 1)) nob), .int .i64 0]) (by simp [results, Tryz.results64, go_sem, c0.1, c0.2.1, c0.2.2.1, c0.2.2.2]) rfl ?_
        exact ⟨rfl, ((((H4.out.setCell (p := ⟨w.heap.size + 1, 0, none⟩) (by show w.heap.size ≤ w.heap.size + 1; omega) _).setCell (p := ⟨w.heap.size + 1, 1, none⟩) (by show w.heap.size ≤ w.heap.size + 1; omega) _).setCell (p := ⟨w.heap.size + 1, 2, none⟩) (by show w.heap.size ≤ w.heap.size + 1; omega) _).setCell (p := ⟨w.heap.size + 1, 3, none⟩) (by show w.heap.size ≤ w.heap.size + 1; omega) _)⟩
    · have ep1 : (p.toList == ([] : List UInt8)) = false := beq_eq_false_iff_ne.2 ep
      have ep2 : p.toList.isEmpty = false := by rw [← Bool.not_eq_true, List.isEmpty_iff]; exact ep
      have hv : Hid (bumpV a b c p t = fin (a, b, c)) := Lib.hid (by rw [hgood.out]; unfold nxt; rw [if_neg e0, if_neg e1, if_neg ep])
      have HN' := Lib.hid (fun W h => HN.out (a) (b) (c) W h)
      rw [hv.out, fin_eqv]
      clear hgood hv ha hb hc t0 t2 HN
      generalize rightB (a) (b) (c) nob = q2 at HN' ⊢
      cases q2 with
      | false =>
        go_enter Tryz.func64, Tryz.ntmps64
        go_wp2_with fail
        refine (HR.out _ (HG.out.below B0.out)).mono ?_
        rintro e w1 ⟨rfl, hb1⟩
        obtain ⟨h1, h2, h3⟩ := MK.out w1 hb1
        have c0 := cell_of_row h2
        have f0 := free_of_row h2
        have H1 := Lib.hid h1
        have H2 := Lib.hid h2
        have H3 := Lib.hid h3
        clear hb1 h1 h2 h3
        go_wp2_with fail
        have hb2 : Below w.heap.size w (w1.setCell ⟨w.heap.size, 3, none⟩ (.string nob)) := (H1.out.setCell (p := ⟨w.heap.size, 3, none⟩) (Nat.le_refl _) _)
        have g2 : (w1.setCell ⟨w.heap.size, 3, none⟩ (.string nob)).heap[w.heap.size]? = some (.cells (vC (a) (b) (c) nob) 38 (0, 0)) := by simp [World.setCell, Array.getElem?_modify, H2.out]
        have g3 : (w1.setCell ⟨w.heap.size, 3, none⟩ (.string nob)).heap[w.heap.size + 1]? = some (.cells (vC 0 0 0 nob) 38 (0, 0)) := by refine (Below.heap_setCell _ _ _ _ (by show w.heap.size + 1 ≠ w.heap.size; omega)).trans ?_; exact H3.out
        generalize hW : (w1.setCell ⟨w.heap.size, 3, none⟩ (.string nob)) = W2 at *
        refine (HN'.out W2 (HG.out.below hb2)).mono ?_
        rintro e w3 ⟨rfl, hb3⟩
        have G2 := (hb3.block _ (Array.getElem?_eq_some_iff.1 g2).1).trans g2
        have G3 := (hb3.block _ (Array.getElem?_eq_some_iff.1 g3).1).trans g3
        have H4 := Lib.hid (hb2.trans (hb3.mono hb2.size))
        clear hW hb2 hb3 g2 g3 c0 f0
        have c0 := cell_of_row G3
        have f0 := free_of_row G3
        have c1 := cell_of_row G2
        clear G2 G3
        go_wp2_with fail
        refine bodyPost_ret (v := .tuple #[.agg (vC 0 0 0 nob), .int .i64 11]) (by simp [results, Tryz.results64, go_sem, c0.1, c0.2.1, c0.2.2.1, c0.2.2.2]) rfl ?_
        exact ⟨rfl, ((((H4.out.setCell (p := ⟨w.heap.size + 1, 0, none⟩) (by show w.heap.size ≤ w.heap.size + 1; omega) _).setCell (p := ⟨w.heap.size + 1, 1, none⟩) (by show w.heap.size ≤ w.heap.size + 1; omega) _).setCell (p := ⟨w.heap.size + 1, 2, none⟩) (by show w.heap.size ≤ w.heap.size + 1; omega) _).setCell (p := ⟨w.heap.size + 1, 3, none⟩) (by show w.heap.size ≤ w.heap.size + 1; omega) _)⟩
      | true =>
        go_enter Tryz.func64, Tryz.ntmps64
        go_wp2_with fail
        refine (HR.out _ (HG.out.below B0.out)).mono ?_
        rintro e w1 ⟨rfl, hb1⟩
        obtain ⟨h1, h2, h3⟩ := MK.out w1 hb1
        have c0 := cell_of_row h2
        have f0 := free_of_row h2
        have H1 := Lib.hid h1
        have H2 := Lib.hid h2
        have H3 := Lib.hid h3
        clear hb1 h1 h2 h3
        go_wp2_with fail
        have hb2 : Below w.heap.size w (w1.setCell ⟨w.heap.size, 3, none⟩ (.string nob)) := (H1.out.setCell (p := ⟨w.heap.size, 3, none⟩) (Nat.le_refl _) _)
        have g2 : (w1.setCell ⟨w.heap.size, 3, none⟩ (.string nob)).heap[w.heap.size]? = some (.cells (vC (a) (b) (c) nob) 38 (0, 0)) := by simp [World.setCell, Array.getElem?_modify, H2.out]
        have g3 : (w1.setCell ⟨w.heap.size, 3, none⟩ (.string nob)).heap[w.heap.size + 1]? = some (.cells (vC 0 0 0 nob) 38 (0, 0)) := by refine (Below.heap_setCell _ _ _ _ (by show w.heap.size + 1 ≠ w.heap.size; omega)).trans ?_; exact H3.out
        generalize hW : (w1.setCell ⟨w.heap.size, 3, none⟩ (.string nob)) = W2 at *
        refine (HN'.out W2 (HG.out.below hb2)).mono ?_
        rintro e w3 ⟨rfl, hb3⟩
        have G2 := (hb3.block _ (Array.getElem?_eq_some_iff.1 g2).1).trans g2
        have G3 := (hb3.block _ (Array.getElem?_eq_some_iff.1 g3).1).trans g3
        have H4 := Lib.hid (hb2.trans (hb3.mono hb2.size))
        clear hW hb2 hb3 g2 g3 c0 f0
        have c0 := cell_of_row G3
        have f0 := free_of_row G3
        have c1 := cell_of_row G2
        clear G2 G3
        go_wp2_with fail
        refine bodyPost_ret (v := .tuple #[.agg (vC (a) (b) (c) nob), .int .i64 0]) (by simp [results, Tryz.results64, go_sem, c0.1, c0.2.1, c0.2.2.1, c0.2.2.2]) rfl ?_
        exact ⟨rfl, ((((H4.out.setCell (p := ⟨w.heap.size + 1, 0, none⟩) (by show w.heap.size ≤ w.heap.size + 1; omega) _).setCell (p := ⟨w.heap.size + 1, 1, none⟩) (by show w.heap.size ≤ w.heap.size + 1; omega) _).setCell (p := ⟨w.heap.size + 1, 2, none⟩) (by show w.heap.size ≤ w.heap.size + 1; omega) _).setCell (p := ⟨w.heap.size + 1, 3, none⟩) (by show w.heap.size ≤ w.heap.size + 1; omega) _)⟩
def semver_Version_Bump.f (a0_0 a0_1 a0_2 : Int) (a0_3 : ByteArray) (a1 : Int) : Option (Int × Int × Int × ByteArray × Int) := if tiny a0_3 then some (bumpV a0_0 a0_1 a0_2 a0_3 a1) else none
theorem semver_Version_Bump.calls (a0_0 a0_1 a0_2 : Int) (a0_3 : ByteArray) (a1 : Int) (r1 : Int) (r2 : Int) (r3 : Int) (r4 : ByteArray) (r5 : Int) (w : World) (hG : Gw w) (h : semver_Version_Bump.f a0_0 a0_1 a0_2 a0_3 a1 = some (r1, r2, r3, r4, r5)) :
    Calls Tryz.prog 64 #[.agg #[.int .i64 a0_0, .int .i64 a0_1, .int .i64 a0_2, .string a0_3], .int .i64 a1] w fun e w' => e = .returned (.tuple #[.agg #[.int .i64 r1, .int .i64 r2, .int .i64 r3, .string r4], .int .i64 r5]) ∧ Below w.heap.size w w' := by
  unfold semver_Version_Bump.f at h
  split at h
  · rename_i hs
    have h := Option.some.inj h
    refine (Bump_walk a0_0 a0_1 a0_2 a0_3 a1 w hG hs).mono fun e w' hp => ?_
    unfold BumpPost at hp
    rw [h] at hp
    exact hp
  · cases h
end Go.Proofs.YtckeeefeiljamaaGreatDoor
set_option linter.unusedSimpArgs false
set_option linter.unusedVariables false
namespace Go.Proofs.YtckeeefeiljamaaGreatDoor
open Go.RowKit Go.Lib Go.Shelf Go.Proofs.YtckeeefeiljamaaGreatDoorW.PrintWords

abbrev cC (o a b c : Int) (p : ByteArray) : Array Value := #[.int .i64 o, .int .i64 a, .int .i64 b, .int .i64 c, .string p]
theorem cell_of_five {w : World} {b : Nat} {t : TypeId} {x0 x1 x2 x3 x4 : Value} (h : w.heap[b]? = some (.cells #[x0, x1, x2, x3, x4] t (0, 0))) :
    w.cell? ⟨b, 0, none⟩ = some x0 ∧ w.cell? ⟨b, 1, none⟩ = some x1 ∧ w.cell? ⟨b, 2, none⟩ = some x2 ∧ w.cell? ⟨b, 3, none⟩ = some x3 ∧ w.cell? ⟨b, 4, none⟩ = some x4 := by
  simp [World.cell?, h]
set_option maxHeartbeats 4000000 in
theorem upper_walk (o a b c : Int) (p : ByteArray) (w : World) (hG : Gw w) : Calls Tryz.prog 44 #[.agg (cC o a b c p)] w fun e w' =>
    e = .returned (.tuple #[.agg (vC (upperV o a b c).1 (upperV o a b c).2.1 (upperV o a b c).2.2.1 (upperV o a b c).2.2.2.1), .bool (upperV o a b c).2.2.2.2]) ∧ Below w.heap.size w w' := by
  have HB := Lib.hid (fun t W h => Bump_walk a b c nob t W h (by decide))
  have HG := Lib.hid hG
  have hv : upperV o a b c = ((bumpV a b c nob (partV o a b c)).1, (bumpV a b c nob (partV o a b c)).2.1, (bumpV a b c nob (partV o a b c)).2.2.1, (bumpV a b c nob (partV o a b c)).2.2.2.1, (bumpV a b c nob (partV o a b c)).2.2.2.2 == 0) := rfl
  rw [hv]
  clear hG hv
  unfold partV
  by_cases e7 : o = 7
  · rw [if_pos e7]
    subst e7
    have HC := Lib.hid (HB.out 1)
    generalize bumpV a b c nob 1 = r at HC ⊢
    obtain ⟨r1, r2, r3, r4, r5⟩ := r
    skip
    go_enter Tryz.func44, Tryz.ntmps44
    go_wp2_with fail
    have h0 : Below w.heap.size w (((w.alloc (.cells (cC 7 a b c p) 48)).alloc (.cells (vC 0 0 0 nob) 38)).alloc (.cells (vC a b c nob) 38)) := (((Below.refl _ w).alloc (Nat.le_refl _) _).alloc (by simp) _).alloc (by simp; omega) _
    have g1 : (((w.alloc (.cells (cC 7 a b c p) 48)).alloc (.cells (vC 0 0 0 nob) 38)).alloc (.cells (vC a b c nob) 38)).heap[w.heap.size + 1]? = some (.cells (vC 0 0 0 nob) 38 (0, 0)) := by
      rw [Below.heap_alloc _ _ _ (by simp)]; have := World.alloc_heap_new (w.alloc (.cells (cC 7 a b c p) 48)) (.cells (vC 0 0 0 nob) 38); rwa [World.size_alloc] at this
    have g2 : (((w.alloc (.cells (cC 7 a b c p) 48)).alloc (.cells (vC 0 0 0 nob) 38)).alloc (.cells (vC a b c nob) 38)).heap[w.heap.size + 2]? = some (.cells (vC a b c nob) 38 (0, 0)) := by
      have := World.alloc_heap_new ((w.alloc (.cells (cC 7 a b c p) 48)).alloc (.cells (vC 0 0 0 nob) 38)) (.cells (vC a b c nob) 38); rwa [World.size_alloc, World.size_alloc] at this
    generalize hW : (((w.alloc (.cells (cC 7 a b c p) 48)).alloc (.cells (vC 0 0 0 nob) 38)).alloc (.cells (vC a b c nob) 38)) = W1 at *
    refine (HC.out W1 (HG.out.below h0)).mono ?_
    rintro e w1 ⟨rfl, hb1⟩
    have H1 := Lib.hid (h0.trans (hb1.mono h0.size))
    have c1 := cell_of_row ((hb1.block _ (Array.getElem?_eq_some_iff.1 g1).1).trans g1)
    have f1 := free_of_row ((hb1.block _ (Array.getElem?_eq_some_iff.1 g1).1).trans g1)
    have c2 := cell_of_row ((hb1.block _ (Array.getElem?_eq_some_iff.1 g2).1).trans g2)
    have f2 := free_of_row ((hb1.block _ (Array.getElem?_eq_some_iff.1 g2).1).trans g2)
    clear hW h0 g1 g2 hb1
    go_wp2_with fail
    refine bodyPost_ret (v := .tuple #[.agg (vC r1 r2 r3 r4), .bool (r5 == 0)]) (by simp [results, Tryz.results44, go_sem, c1.1, c1.2.1, c1.2.2.1, c1.2.2.2]) rfl ?_
    exact ⟨rfl, ((((((((H1.out.setCell (p := ⟨w.heap.size + 2, 0, none⟩) (by show w.heap.size ≤ w.heap.size + 2; omega) _).setCell (p := ⟨w.heap.size + 2, 1, none⟩) (by show w.heap.size ≤ w.heap.size + 2; omega) _).setCell (p := ⟨w.heap.size + 2, 2, none⟩) (by show w.heap.size ≤ w.heap.size + 2; omega) _).setCell (p := ⟨w.heap.size + 2, 3, none⟩) (by show w.heap.size ≤ w.heap.size + 2; omega) _).setCell (p := ⟨w.heap.size + 1, 0, none⟩) (by show w.heap.size ≤ w.heap.size + 1; omega) _).setCell (p := ⟨w.heap.size + 1, 1, none⟩) (by show w.heap.size ≤ w.heap.size + 1; omega) _).setCell (p := ⟨w.heap.size + 1, 2, none⟩) (by show w.heap.size ≤ w.heap.size + 1; omega) _).setCell (p := ⟨w.heap.size + 1, 3, none⟩) (by show w.heap.size ≤ w.heap.size + 1; omega) _)⟩
  · rw [if_neg e7]
    have e7b : (o == 7) = false := beq_eq_false_iff_ne.2 e7
    by_cases ha : 0 < a
    · rw [if_pos ha]
      have ha1 : decide (0 < a) = true := decide_eq_true ha
      have HC := Lib.hid (HB.out 0)
      generalize bumpV a b c nob 0 = r at HC ⊢
      obtain ⟨r1, r2, r3, r4, r5⟩ := r
      clear e7 ha
      go_enter Tryz.func44, Tryz.ntmps44
      go_wp2_with fail
      have h0 : Below w.heap.size w (((w.alloc (.cells (cC o a b c p) 48)).alloc (.cells (vC 0 0 0 nob) 38)).alloc (.cells (vC a b c nob) 38)) := (((Below.refl _ w).alloc (Nat.le_refl _) _).alloc (by simp) _).alloc (by simp; omega) _
      have g1 : (((w.alloc (.cells (cC o a b c p) 48)).alloc (.cells (vC 0 0 0 nob) 38)).alloc (.cells (vC a b c nob) 38)).heap[w.heap.size + 1]? = some (.cells (vC 0 0 0 nob) 38 (0, 0)) := by
        rw [Below.heap_alloc _ _ _ (by simp)]; have := World.alloc_heap_new (w.alloc (.cells (cC o a b c p) 48)) (.cells (vC 0 0 0 nob) 38); rwa [World.size_alloc] at this
      have g2 : (((w.alloc (.cells (cC o a b c p) 48)).alloc (.cells (vC 0 0 0 nob) 38)).alloc (.cells (vC a b c nob) 38)).heap[w.heap.size + 2]? = some (.cells (vC a b c nob) 38 (0, 0)) := by
        have := World.alloc_heap_new ((w.alloc (.cells (cC o a b c p) 48)).alloc (.cells (vC 0 0 0 nob) 38)) (.cells (vC a b c nob) 38); rwa [World.size_alloc, World.size_alloc] at this
      generalize hW : (((w.alloc (.cells (cC o a b c p) 48)).alloc (.cells (vC 0 0 0 nob) 38)).alloc (.cells (vC a b c nob) 38)) = W1 at *
      refine (HC.out W1 (HG.out.below h0)).mono ?_
      rintro e w1 ⟨rfl, hb1⟩
      have H1 := Lib.hid (h0.trans (hb1.mono h0.size))
      have c1 := cell_of_row ((hb1.block _ (Array.getElem?_eq_some_iff.1 g1).1).trans g1)
      have f1 := free_of_row ((hb1.block _ (Array.getElem?_eq_some_iff.1 g1).1).trans g1)
      have c2 := cell_of_row ((hb1.block _ (Array.getElem?_eq_some_iff.1 g2).1).trans g2)
      have f2 := free_of_row ((hb1.block _ (Array.getElem?_eq_some_iff.1 g2).1).trans g2)
      clear hW h0 g1 g2 hb1
      go_wp2_with fail
      refine bodyPost_ret (v := .tuple #[.agg (vC r1 r2 r3 r4), .bool (r5 == 0)]) (by simp [results, Tryz.results44, go_sem, c1.1, c1.2.1, c1.2.2.1, c1.2.2.2]) rfl ?_
      exact ⟨rfl, ((((((((H1.out.setCell (p := ⟨w.heap.size + 2, 0, none⟩) (by show w.heap.size ≤ w.heap.size + 2; omega) _).setCell (p := ⟨w.heap.size + 2, 1, none⟩) (by show w.heap.size ≤ w.heap.size + 2; omega) _).setCell (p := ⟨w.heap.size + 2, 2, none⟩) (by show w.heap.size ≤ w.heap.size + 2; omega) _).setCell (p := ⟨w.heap.size + 2, 3, none⟩) (by show w.heap.size ≤ w.heap.size + 2; omega) _).setCell (p := ⟨w.heap.size + 1, 0, none⟩) (by show w.heap.size ≤ w.heap.size + 1; omega) _).setCell (p := ⟨w.heap.size + 1, 1, none⟩) (by show w.heap.size ≤ w.heap.size + 1; omega) _).setCell (p := ⟨w.heap.size + 1, 2, none⟩) (by show w.heap.size ≤ w.heap.size + 1; omega) _).setCell (p := ⟨w.heap.size + 1, 3, none⟩) (by show w.heap.size ≤ w.heap.size + 1; omega) _)⟩
    · rw [if_neg ha]
      have ha1 : decide (0 < a) = false := decide_eq_false ha
      by_cases hb : b = 0
      · rw [if_pos hb]
        have hb1 : (b == 0) = true := beq_iff_eq.2 hb
        have HC := Lib.hid (HB.out 2)
        generalize bumpV a b c nob 2 = r at HC ⊢
        obtain ⟨r1, r2, r3, r4, r5⟩ := r
        clear e7 ha hb
        go_enter Tryz.func44, Tryz.ntmps44
        go_wp2_with fail
        have h0 : Below w.heap.size w (((w.alloc (.cells (cC o a b c p) 48)).alloc (.cells (vC 0 0 0 nob) 38)).alloc (.cells (vC a b c nob) 38)) := (((Below.refl _ w).alloc (Nat.le_refl _) _).alloc (by simp) _).alloc (by simp; omega) _
        have g1 : (((w.alloc (.cells (cC o a b c p) 48)).alloc (.cells (vC 0 0 0 nob) 38)).alloc (.cells (vC a b c nob) 38)).heap[w.heap.size + 1]? = some (.cells (vC 0 0 0 nob) 38 (0, 0)) := by
          rw [Below.heap_alloc _ _ _ (by simp)]; have := World.alloc_heap_new (w.alloc (.cells (cC o a b c p) 48)) (.cells (vC 0 0 0 nob) 38); rwa [World.size_alloc] at this
        have g2 : (((w.alloc (.cells (cC o a b c p) 48)).alloc (.cells (vC 0 0 0 nob) 38)).alloc (.cells (vC a b c nob) 38)).heap[w.heap.size + 2]? = some (.cells (vC a b c nob) 38 (0, 0)) := by
          have := World.alloc_heap_new ((w.alloc (.cells (cC o a b c p) 48)).alloc (.cells (vC 0 0 0 nob) 38)) (.cells (vC a b c nob) 38); rwa [World.size_alloc, World.size_alloc] at this
        generalize hW : (((w.alloc (.cells (cC o a b c p) 48)).alloc (.cells (vC 0 0 0 nob) 38)).alloc (.cells (vC a b c nob) 38)) = W1 at *
        refine (HC.out W1 (HG.out.below h0)).mono ?_
        rintro e w1 ⟨rfl, hbb⟩
        have H1 := Lib.hid (h0.trans (hbb.mono h0.size))
        have c1 := cell_of_row ((hbb.block _ (Array.getElem?_eq_some_iff.1 g1).1).trans g1)
        have f1 := free_of_row ((hbb.block _ (Array.getElem?_eq_some_iff.1 g1).1).trans g1)
        have c2 := cell_of_row ((hbb.block _ (Array.getElem?_eq_some_iff.1 g2).1).trans g2)
        have f2 := free_of_row ((hbb.block _ (Array.getElem?_eq_some_iff.1 g2).1).trans g2)
        clear hW h0 g1 g2 hbb
        go_wp2_with fail
        refine bodyPost_ret (v := .tuple #[.agg (vC r1 r2 r3 r4), .bool (r5 == 0)]) (by simp [results, Tryz.results44, go_sem, c1.1, c1.2.1, c1.2.2.1, c1.2.2.2]) rfl ?_
        exact ⟨rfl, ((((((((H1.out.setCell (p := ⟨w.heap.size + 2, 0, none⟩) (by show w.heap.size ≤ w.heap.size + 2; omega) _).setCell (p := ⟨w.heap.size + 2, 1, none⟩) (by show w.heap.size ≤ w.heap.size + 2; omega) _).setCell (p := ⟨w.heap.size + 2, 2, none⟩) (by show w.heap.size ≤ w.heap.size + 2; omega) _).setCell (p := ⟨w.heap.size + 2, 3, none⟩) (by show w.heap.size ≤ w.heap.size + 2; omega) _).setCell (p := ⟨w.heap.size + 1, 0, none⟩) (by show w.heap.size ≤ w.heap.size + 1; omega) _).setCell (p := ⟨w.heap.size + 1, 1, none⟩) (by show w.heap.size ≤ w.heap.size + 1; omega) _).setCell (p := ⟨w.heap.size + 1, 2, none⟩) (by show w.heap.size ≤ w.heap.size + 1; omega) _).setCell (p := ⟨w.heap.size + 1, 3, none⟩) (by show w.heap.size ≤ w.heap.size + 1; omega) _)⟩
      · rw [if_neg hb]
        have hb1 : (b == 0) = false := beq_eq_false_iff_ne.2 hb
        have HC := Lib.hid (HB.out 1)
        generalize bumpV a b c nob 1 = r at HC ⊢
        obtain ⟨r1, r2, r3, r4, r5⟩ := r
        clear e7 ha hb
        go_enter Tryz.func44, Tryz.ntmps44
        go_wp2_with fail
        have h0 : Below w.heap.size w (((w.alloc (.cells (cC o a b c p) 48)).alloc (.cells (vC 0 0 0 nob) 38)).alloc (.cells (vC a b c nob) 38)) := (((Below.refl _ w).alloc (Nat.le_refl _) _).alloc (by simp) _).alloc (by simp; omega) _
        have g1 : (((w.alloc (.cells (cC o a b c p) 48)).alloc (.cells (vC 0 0 0 nob) 38)).alloc (.cells (vC a b c nob) 38)).heap[w.heap.size + 1]? = some (.cells (vC 0 0 0 nob) 38 (0, 0)) := by
          rw [Below.heap_alloc _ _ _ (by simp)]; have := World.alloc_heap_new (w.alloc (.cells (cC o a b c p) 48)) (.cells (vC 0 0 0 nob) 38); rwa [World.size_alloc] at this
        have g2 : (((w.alloc (.cells (cC o a b c p) 48)).alloc (.cells (vC 0 0 0 nob) 38)).alloc (.cells (vC a b c nob) 38)).heap[w.heap.size + 2]? = some (.cells (vC a b c nob) 38 (0, 0)) := by
          have := World.alloc_heap_new ((w.alloc (.cells (cC o a b c p) 48)).alloc (.cells (vC 0 0 0 nob) 38)) (.cells (vC a b c nob) 38); rwa [World.size_alloc, World.size_alloc] at this
        generalize hW : (((w.alloc (.cells (cC o a b c p) 48)).alloc (.cells (vC 0 0 0 nob) 38)).alloc (.cells (vC a b c nob) 38)) = W1 at *
        refine (HC.out W1 (HG.out.below h0)).mono ?_
        rintro e w1 ⟨rfl, hbb⟩
        have H1 := Lib.hid (h0.trans (hbb.mono h0.size))
        have c1 := cell_of_row ((hbb.block _ (Array.getElem?_eq_some_iff.1 g1).1).trans g1)
        have f1 := free_of_row ((hbb.block _ (Array.getElem?_eq_some_iff.1 g1).1).trans g1)
        have c2 := cell_of_row ((hbb.block _ (Array.getElem?_eq_some_iff.1 g2).1).trans g2)
        have f2 := free_of_row ((hbb.block _ (Array.getElem?_eq_some_iff.1 g2).1).trans g2)
        clear hW h0 g1 g2 hbb
        go_wp2_with fail
        refine bodyPost_ret (v := .tuple #[.agg (vC r1 r2 r3 r4), .bool (r5 == 0)]) (by simp [results, Tryz.results44, go_sem, c1.1, c1.2.1, c1.2.2.1, c1.2.2.2]) rfl ?_
        exact ⟨rfl, ((((((((H1.out.setCell (p := ⟨w.heap.size + 2, 0, none⟩) (by show w.heap.size ≤ w.heap.size + 2; omega) _).setCell (p := ⟨w.heap.size + 2, 1, none⟩) (by show w.heap.size ≤ w.heap.size + 2; omega) _).setCell (p := ⟨w.heap.size + 2, 2, none⟩) (by show w.heap.size ≤ w.heap.size + 2; omega) _).setCell (p := ⟨w.heap.size + 2, 3, none⟩) (by show w.heap.size ≤ w.heap.size + 2; omega) _).setCell (p := ⟨w.heap.size + 1, 0, none⟩) (by show w.heap.size ≤ w.heap.size + 1; omega) _).setCell (p := ⟨w.heap.size + 1, 1, none⟩) (by show w.heap.size ≤ w.heap.size + 1; omega) _).setCell (p := ⟨w.heap.size + 1, 2, none⟩) (by show w.heap.size ≤ w.heap.size + 1; omega) _).setCell (p := ⟨w.heap.size + 1, 3, none⟩) (by show w.heap.size ≤ w.heap.size + 1; omega) _)⟩

set_option maxHeartbeats 4000000 in
theorem has_walk (o a b c : Int) (p : ByteArray) (x y z : Int) (q : ByteArray) (w : World) (hG : Gw w) (hp : tiny p) (hq : tiny q) : Calls Tryz.prog 37 #[.agg (cC o a b c p), .agg (vC x y z q)] w fun e w' => e = .returned (.bool (hasV o a b c p x y z q)) ∧ Below w.heap.size w w' := by
  have HC := Lib.hid (fun W h => semver_Compare.calls x y z q a b c p (cmpV x y z q a b c p) W h (cmp_some _ _ _ _ _ _ _ _ hq hp))
  have HU := Lib.hid (fun W h => upper_walk o a b c p W h)
  have HD := Lib.hid (fun W h => semver_Compare.calls x y z q (upperV o a b c).1 (upperV o a b c).2.1 (upperV o a b c).2.2.1 (upperV o a b c).2.2.2.1 (cmpV x y z q (upperV o a b c).1 (upperV o a b c).2.1 (upperV o a b c).2.2.1 (upperV o a b c).2.2.2.1) W h (cmp_some _ _ _ _ _ _ _ _ hq (by show ((upperV o a b c).2.2.2.1).size ≤ 1000; unfold upperV; rw [bump_pre]; decide)))
  have HG := Lib.hid hG
  have h0 : Below w.heap.size w ((w.alloc (.cells (cC o a b c p) 48)).alloc (.cells (vC x y z q) 38)) := ((Below.refl _ w).alloc (Nat.le_refl _) _).alloc (by simp) _
  have g0 : ((w.alloc (.cells (cC o a b c p) 48)).alloc (.cells (vC x y z q) 38)).heap[w.heap.size]? = some (.cells (cC o a b c p) 48 (0, 0)) := (Below.heap_alloc _ _ _ (by simp)).trans (World.alloc_heap_new _ _)
  have g1 : ((w.alloc (.cells (cC o a b c p) 48)).alloc (.cells (vC x y z q) 38)).heap[w.heap.size + 1]? = some (.cells (vC x y z q) 38 (0, 0)) := by
    have := World.alloc_heap_new (w.alloc (.cells (cC o a b c p) 48)) (.cells (vC x y z q) 38); rwa [World.size_alloc] at this
  have MK := Lib.hid (fun w1 (h : Below ((w.alloc (.cells (cC o a b c p) 48)).alloc (.cells (vC x y z q) 38)).heap.size ((w.alloc (.cells (cC o a b c p) 48)).alloc (.cells (vC x y z q) 38)) w1) =>
    (⟨h0.trans (h.mono h0.size), (h.block _ (by simp; omega)).trans g0, (h.block _ (by simp)).trans g1⟩ : Below w.heap.size w w1 ∧ w1.heap[w.heap.size]? = some (.cells (cC o a b c p) 48 (0, 0)) ∧ w1.heap[w.heap.size + 1]? = some (.cells (vC x y z q) 38 (0, 0))))
  have HW := Lib.hid (HC.out _ (HG.out.below h0))
  clear hG h0 g0 g1 HC
  unfold hasV belowU
  generalize cmpV x y z q a b c p = n at HW ⊢
  generalize cmpV x y z q (upperV o a b c).1 (upperV o a b c).2.1 (upperV o a b c).2.2.1 (upperV o a b c).2.2.2.1 = n2 at HD ⊢
  generalize (upperV o a b c).1 = r1 at *
  generalize (upperV o a b c).2.1 = r2 at *
  generalize (upperV o a b c).2.2.1 = r3 at *
  generalize (upperV o a b c).2.2.2.1 = r4 at *
  generalize (upperV o a b c).2.2.2.2 = r5 at *
  by_cases e1 : o = 1
  · rw [if_pos e1]
    subst e1
    go_enter Tryz.func37, Tryz.ntmps37
    go_wp2_with fail
    refine HW.out.mono ?_
    rintro e w1 ⟨rfl, hb1⟩
    obtain ⟨h1, h2, h3⟩ := MK.out w1 hb1
    have c1 := cell_of_five h2
    have c2 := cell_of_row h3
    have H1 := Lib.hid h1
    have H2 := Lib.hid h2
    have H3 := Lib.hid h3
    clear hb1 h1 h2 h3
    go_wp2_with fail
    go_ret
    exact ⟨rfl, H1.out⟩
  rw [if_neg e1]
  have e1b : (o == 1) = false := beq_eq_false_iff_ne.2 e1
  by_cases e2 : o = 2
  · rw [if_pos e2]
    subst e2
    go_enter Tryz.func37, Tryz.ntmps37
    go_wp2_with fail
    refine HW.out.mono ?_
    rintro e w1 ⟨rfl, hb1⟩
    obtain ⟨h1, h2, h3⟩ := MK.out w1 hb1
    have c1 := cell_of_five h2
    have c2 := cell_of_row h3
    have H1 := Lib.hid h1
    have H2 := Lib.hid h2
    have H3 := Lib.hid h3
    clear hb1 h1 h2 h3
    go_wp2_with fail
    go_ret
    exact ⟨rfl, H1.out⟩
  rw [if_neg e2]
  have e2b : (o == 2) = false := beq_eq_false_iff_ne.2 e2
  by_cases e3 : o = 3
  · rw [if_pos e3]
    subst e3
    go_enter Tryz.func37, Tryz.ntmps37
    go_wp2_with fail
    refine HW.out.mono ?_
    rintro e w1 ⟨rfl, hb1⟩
    obtain ⟨h1, h2, h3⟩ := MK.out w1 hb1
    have c1 := cell_of_five h2
    have c2 := cell_of_row h3
    have H1 := Lib.hid h1
    have H2 := Lib.hid h2
    have H3 := Lib.hid h3
    clear hb1 h1 h2 h3
    go_wp2_with fail
    go_ret
    exact ⟨rfl, H1.out⟩
  rw [if_neg e3]
  have e3b : (o == 3) = false := beq_eq_false_iff_ne.2 e3
  by_cases e4 : o = 4
  · rw [if_pos e4]
    subst e4
    go_enter Tryz.func37, Tryz.ntmps37
    go_wp2_with fail
    refine HW.out.mono ?_
    rintro e w1 ⟨rfl, hb1⟩
    obtain ⟨h1, h2, h3⟩ := MK.out w1 hb1
    have c1 := cell_of_five h2
    have c2 := cell_of_row h3
    have H1 := Lib.hid h1
    have H2 := Lib.hid h2
    have H3 := Lib.hid h3
    clear hb1 h1 h2 h3
    go_wp2_with fail
    go_ret
    exact ⟨rfl, H1.out⟩
  rw [if_neg e4]
  have e4b : (o == 4) = false := beq_eq_false_iff_ne.2 e4
  by_cases e5 : o = 5
  · rw [if_pos e5]
    subst e5
    go_enter Tryz.func37, Tryz.ntmps37
    go_wp2_with fail
    refine HW.out.mono ?_
    rintro e w1 ⟨rfl, hb1⟩
    obtain ⟨h1, h2, h3⟩ := MK.out w1 hb1
    have c1 := cell_of_five h2
    have c2 := cell_of_row h3
    have H1 := Lib.hid h1
    have H2 := Lib.hid h2
    have H3 := Lib.hid h3
    clear hb1 h1 h2 h3
    go_wp2_with fail
    go_ret
    exact ⟨rfl, H1.out⟩
  rw [if_neg e5]
  have e5b : (o == 5) = false := beq_eq_false_iff_ne.2 e5
  by_cases e6 : o = 6
  · rw [if_pos (.inl e6)]
    subst e6
    by_cases hn : n ≥ 0
    · have hn1 : decide (n ≥ 0) = true := decide_eq_true hn
      have hn2 : decide ((0 : Int) ≤ n) = true := decide_eq_true hn
      rw [hn1, Bool.true_and]
      clear hn
      cases r5 with
      | false =>
        go_enter Tryz.func37, Tryz.ntmps37
        go_wp2_with fail
        refine HW.out.mono ?_
        rintro e w1 ⟨rfl, hb1⟩
        obtain ⟨h1, h2, h3⟩ := MK.out w1 hb1
        have c1 := cell_of_five h2
        have c2 := cell_of_row h3
        have H1 := Lib.hid h1
        have H2 := Lib.hid h2
        have H3 := Lib.hid h3
        clear hb1 h1 h2 h3
        go_wp2_with fail
        refine (HU.out w1 (HG.out.below H1.out)).mono ?_
        rintro e w2 ⟨rfl, hb2⟩
        have H4 := Lib.hid (H1.out.trans (hb2.mono H1.out.size))
        have c5 := cell_of_row ((hb2.block _ (Array.getElem?_eq_some_iff.1 H3.out).1).trans H3.out)
        have c6 := cell_of_row ((below_alloc (Below.refl _ w2) (.cells (vC r1 r2 r3 r4) 38)).block _ (Nat.lt_of_lt_of_le (Array.getElem?_eq_some_iff.1 H3.out).1 hb2.size) |>.trans ((hb2.block _ (Array.getElem?_eq_some_iff.1 H3.out).1).trans H3.out))
        have H5 : Hid (Below w.heap.size w (w2.alloc (.cells (vC r1 r2 r3 r4) 38))) := Lib.hid (H4.out.alloc H4.out.size _)
        clear hb2 c1 c2
        go_wp2_with fail
        go_ret
        exact ⟨rfl, H5.out⟩
      | true =>
        go_enter Tryz.func37, Tryz.ntmps37
        go_wp2_with fail
        refine HW.out.mono ?_
        rintro e w1 ⟨rfl, hb1⟩
        obtain ⟨h1, h2, h3⟩ := MK.out w1 hb1
        have c1 := cell_of_five h2
        have c2 := cell_of_row h3
        have H1 := Lib.hid h1
        have H2 := Lib.hid h2
        have H3 := Lib.hid h3
        clear hb1 h1 h2 h3
        go_wp2_with fail
        refine (HU.out w1 (HG.out.below H1.out)).mono ?_
        rintro e w2 ⟨rfl, hb2⟩
        have H4 := Lib.hid (H1.out.trans (hb2.mono H1.out.size))
        have c5 := cell_of_row ((hb2.block _ (Array.getElem?_eq_some_iff.1 H3.out).1).trans H3.out)
        have c6 := cell_of_row ((below_alloc (Below.refl _ w2) (.cells (vC r1 r2 r3 r4) 38)).block _ (Nat.lt_of_lt_of_le (Array.getElem?_eq_some_iff.1 H3.out).1 hb2.size) |>.trans ((hb2.block _ (Array.getElem?_eq_some_iff.1 H3.out).1).trans H3.out))
        have H5 : Hid (Below w.heap.size w (w2.alloc (.cells (vC r1 r2 r3 r4) 38))) := Lib.hid (H4.out.alloc H4.out.size _)
        clear hb2 c1 c2
        go_wp2_with fail
        refine (HD.out _ (HG.out.below H5.out)).mono ?_
        rintro e w3 ⟨rfl, hb3⟩
        have H6 := Lib.hid (H5.out.trans (hb3.mono H5.out.size))
        clear hb3
        go_wp2_with fail
        go_ret
        exact ⟨rfl, H6.out⟩
    · have hn1 : decide (n ≥ 0) = false := decide_eq_false hn
      have hn2 : decide ((0 : Int) ≤ n) = false := decide_eq_false hn
      rw [hn1, Bool.false_and]
      clear hn
      go_enter Tryz.func37, Tryz.ntmps37
      go_wp2_with fail
      refine HW.out.mono ?_
      rintro e w1 ⟨rfl, hb1⟩
      obtain ⟨h1, h2, h3⟩ := MK.out w1 hb1
      have c1 := cell_of_five h2
      have c2 := cell_of_row h3
      have H1 := Lib.hid h1
      have H2 := Lib.hid h2
      have H3 := Lib.hid h3
      clear hb1 h1 h2 h3
      go_wp2_with fail
      refine (HU.out w1 (HG.out.below H1.out)).mono ?_
      rintro e w2 ⟨rfl, hb2⟩
      have H4 := Lib.hid (H1.out.trans (hb2.mono H1.out.size))
      have H5 : Hid (Below w.heap.size w (w2.alloc (.cells (vC r1 r2 r3 r4) 38))) := Lib.hid (H4.out.alloc H4.out.size _)
      clear hb2 c1 c2
      go_wp2_with fail
      go_ret
      exact ⟨rfl, H5.out⟩
  by_cases e7 : o = 7
  · rw [if_pos (.inr e7)]
    subst e7
    by_cases hn : n ≥ 0
    · have hn1 : decide (n ≥ 0) = true := decide_eq_true hn
      have hn2 : decide ((0 : Int) ≤ n) = true := decide_eq_true hn
      rw [hn1, Bool.true_and]
      clear hn
      cases r5 with
      | false =>
        go_enter Tryz.func37, Tryz.ntmps37
        go_wp2_with fail
        refine HW.out.mono ?_
        rintro e w1 ⟨rfl, hb1⟩
        obtain ⟨h1, h2, h3⟩ := MK.out w1 hb1
        have c1 := cell_of_five h2
        have c2 := cell_of_row h3
        have H1 := Lib.hid h1
        have H2 := Lib.hid h2
        have H3 := Lib.hid h3
        clear hb1 h1 h2 h3
        go_wp2_with fail
        refine (HU.out w1 (HG.out.below H1.out)).mono ?_
        rintro e w2 ⟨rfl, hb2⟩
        have H4 := Lib.hid (H1.out.trans (hb2.mono H1.out.size))
        have c5 := cell_of_row ((hb2.block _ (Array.getElem?_eq_some_iff.1 H3.out).1).trans H3.out)
        have c6 := cell_of_row ((below_alloc (Below.refl _ w2) (.cells (vC r1 r2 r3 r4) 38)).block _ (Nat.lt_of_lt_of_le (Array.getElem?_eq_some_iff.1 H3.out).1 hb2.size) |>.trans ((hb2.block _ (Array.getElem?_eq_some_iff.1 H3.out).1).trans H3.out))
        have H5 : Hid (Below w.heap.size w (w2.alloc (.cells (vC r1 r2 r3 r4) 38))) := Lib.hid (H4.out.alloc H4.out.size _)
        clear hb2 c1 c2
        go_wp2_with fail
        go_ret
        exact ⟨rfl, H5.out⟩
      | true =>
        go_enter Tryz.func37, Tryz.ntmps37
        go_wp2_with fail
        refine HW.out.mono ?_
        rintro e w1 ⟨rfl, hb1⟩
        obtain ⟨h1, h2, h3⟩ := MK.out w1 hb1
        have c1 := cell_of_five h2
        have c2 := cell_of_row h3
        have H1 := Lib.hid h1
        have H2 := Lib.hid h2
        have H3 := Lib.hid h3
        clear hb1 h1 h2 h3
        go_wp2_with fail
        refine (HU.out w1 (HG.out.below H1.out)).mono ?_
        rintro e w2 ⟨rfl, hb2⟩
        have H4 := Lib.hid (H1.out.trans (hb2.mono H1.out.size))
        have c5 := cell_of_row ((hb2.block _ (Array.getElem?_eq_some_iff.1 H3.out).1).trans H3.out)
        have c6 := cell_of_row ((below_alloc (Below.refl _ w2) (.cells (vC r1 r2 r3 r4) 38)).block _ (Nat.lt_of_lt_of_le (Array.getElem?_eq_some_iff.1 H3.out).1 hb2.size) |>.trans ((hb2.block _ (Array.getElem?_eq_some_iff.1 H3.out).1).trans H3.out))
        have H5 : Hid (Below w.heap.size w (w2.alloc (.cells (vC r1 r2 r3 r4) 38))) := Lib.hid (H4.out.alloc H4.out.size _)
        clear hb2 c1 c2
        go_wp2_with fail
        refine (HD.out _ (HG.out.below H5.out)).mono ?_
        rintro e w3 ⟨rfl, hb3⟩
        have H6 := Lib.hid (H5.out.trans (hb3.mono H5.out.size))
        clear hb3
        go_wp2_with fail
        go_ret
        exact ⟨rfl, H6.out⟩
    · have hn1 : decide (n ≥ 0) = false := decide_eq_false hn
      have hn2 : decide ((0 : Int) ≤ n) = false := decide_eq_false hn
      rw [hn1, Bool.false_and]
      clear hn
      go_enter Tryz.func37, Tryz.ntmps37
      go_wp2_with fail
      refine HW.out.mono ?_
      rintro e w1 ⟨rfl, hb1⟩
      obtain ⟨h1, h2, h3⟩ := MK.out w1 hb1
      have c1 := cell_of_five h2
      have c2 := cell_of_row h3
      have H1 := Lib.hid h1
      have H2 := Lib.hid h2
      have H3 := Lib.hid h3
      clear hb1 h1 h2 h3
      go_wp2_with fail
      refine (HU.out w1 (HG.out.below H1.out)).mono ?_
      rintro e w2 ⟨rfl, hb2⟩
      have H4 := Lib.hid (H1.out.trans (hb2.mono H1.out.size))
      have H5 : Hid (Below w.heap.size w (w2.alloc (.cells (vC r1 r2 r3 r4) 38))) := Lib.hid (H4.out.alloc H4.out.size _)
      clear hb2 c1 c2
      go_wp2_with fail
      go_ret
      exact ⟨rfl, H5.out⟩
  rw [if_neg (by omega)]
  have e6b : (o == 6) = false := beq_eq_false_iff_ne.2 e6
  have e7b : (o == 7) = false := beq_eq_false_iff_ne.2 e7
  go_enter Tryz.func37, Tryz.ntmps37
  go_wp2_with fail
  refine HW.out.mono ?_
  rintro e w1 ⟨rfl, hb1⟩
  obtain ⟨h1, h2, h3⟩ := MK.out w1 hb1
  have c1 := cell_of_five h2
  have c2 := cell_of_row h3
  have H1 := Lib.hid h1
  have H2 := Lib.hid h2
  have H3 := Lib.hid h3
  clear hb1 h1 h2 h3
  go_wp2_with fail
  go_ret
  exact ⟨rfl, H1.out⟩
def ranges_Comp_has.f (a0_0 a0_1 a0_2 a0_3 : Int) (a0_4 : ByteArray) (a1_0 a1_1 a1_2 : Int) (a1_3 : ByteArray) : Option Bool := if tiny a0_4 ∧ tiny a1_3 then some (hasV a0_0 a0_1 a0_2 a0_3 a0_4 a1_0 a1_1 a1_2 a1_3) else none
theorem ranges_Comp_has.calls (a0_0 a0_1 a0_2 a0_3 : Int) (a0_4 : ByteArray) (a1_0 a1_1 a1_2 : Int) (a1_3 : ByteArray) (r : Bool) (w : World) (hG : Gw w) (h : ranges_Comp_has.f a0_0 a0_1 a0_2 a0_3 a0_4 a1_0 a1_1 a1_2 a1_3 = some r) :
    Calls Tryz.prog 37 #[.agg #[.int .i64 a0_0, .int .i64 a0_1, .int .i64 a0_2, .int .i64 a0_3, .string a0_4], .agg #[.int .i64 a1_0, .int .i64 a1_1, .int .i64 a1_2, .string a1_3]] w fun e w' => e = .returned (.bool r) ∧ Below w.heap.size w w' := by
  unfold ranges_Comp_has.f at h
  split at h
  · rename_i hs
    obtain rfl := Option.some.inj h
    exact has_walk _ _ _ _ _ _ _ _ _ w hG hs.1 hs.2
  · cases h
def ranges_Comp_upper.f (a0_0 a0_1 a0_2 a0_3 : Int) (a0_4 : ByteArray) : Option (Int × Int × Int × ByteArray × Bool) := some (upperV a0_0 a0_1 a0_2 a0_3)
theorem ranges_Comp_upper.calls (a0_0 a0_1 a0_2 a0_3 : Int) (a0_4 : ByteArray) (r1 r2 r3 : Int) (r4 : ByteArray) (r5 : Bool) (w : World) (hG : Gw w) (h : ranges_Comp_upper.f a0_0 a0_1 a0_2 a0_3 a0_4 = some (r1, r2, r3, r4, r5)) :
    Calls Tryz.prog 44 #[.agg #[.int .i64 a0_0, .int .i64 a0_1, .int .i64 a0_2, .int .i64 a0_3, .string a0_4]] w fun e w' => e = .returned (.tuple #[.agg #[.int .i64 r1, .int .i64 r2, .int .i64 r3, .string r4], .bool r5]) ∧ Below w.heap.size w w' := by
  have h := Option.some.inj h
  have := upper_walk a0_0 a0_1 a0_2 a0_3 a0_4 w hG
  rw [h] at this
  exact this
end Go.Proofs.YtckeeefeiljamaaGreatDoor
