/- semver.pre: the pieces between points are at most four marks. -/
import Derived.Test.YtkilaemngejplaaDoorGc
import Derived.Test.YtkilaemngejplaaDoorGd
import Derived.RangeFuncBox
set_option linter.unusedSimpArgs false
set_option linter.unusedVariables false
namespace Go.Proofs.YtkilaemngejplaaDoor
open Go.RowKit Go.Shelf Go.Proofs.Cuts Go.Proofs.YtkilaemngejplaaDoorW.PrintWords
attribute [local go_sem] Oper.semAt_some

def dot : ByteArray := ⟨#[46]⟩
def preB (s : ByteArray) : Bool := decide ((pieces dot s).length ≤ 4) && (pieces dot s).all (fun p => markL p.data.toList)

/-- Between two rounds: k pieces have come, all marks. -/
structure PreI (s : ByteArray) (w : World) (k : Nat) (W : World) : Prop where
  le : k ≤ 4
  all : ((pieces dot s).take k).all (fun p => markL p.data.toList) = true
  r : W.heap[w.heap.size]? = some (.cells #[.bool false] 4 (0, 0))
  n : W.heap[w.heap.size + 1]? = some (.cells #[.int .i64 k] 3 (0, 0))
  bel : Below w.heap.size w W
/-- A round has said 'no more'. -/
structure PreX (s : ByteArray) (w : World) (W : World) : Prop where
  no : preB s = false
  r : W.heap[w.heap.size]? = some (.cells #[.bool false] 4 (0, 0))
  bel : Below w.heap.size w W

theorem harm_block {b E r : Nat} {W W' : World} {o : Obj} (h : Harm b E W W') (hr : W.heap[r]? = some o) (h1 : r ≠ b) (h2 : o.isCells = true) : W'.heap[r]? = some o := by
  obtain ⟨row, hg, hrow⟩ := h
  refine (hg.block r (Array.getElem?_eq_some_iff.1 hr).1 (fun e => ?_)).trans hr
  rcases hrow r e.symm with e1 | ⟨_, o', ho', hc⟩
  · exact h1 e1
  · rw [hr] at ho'; cases ho'; rw [h2] at hc; cases hc
theorem harm_below {b E B : Nat} {w W W' : World} (h : Harm b E W W') (hb : Below B w W) (hB : B ≤ W.heap.size) (h1 : B ≤ b) (h2 : B ≤ E) : Below B w W' := by
  obtain ⟨row, hg, hrow⟩ := h
  refine hb.grown hg hB (fun k e => ?_)
  rcases hrow k e with e1 | ⟨e1, _⟩ <;> omega

set_option maxHeartbeats 2000000 in
set_option maxRecDepth 100000 in
theorem pre_any (s : ByteArray) (hs : s.size < 4294967281) (w : World) (hG : Gw w) :
    Calls Tryd.prog 25 #[.string s] w fun e w' => e = .returned (.bool (preB s)) ∧ Below w.heap.size w w' := by
  refine (callsIn_wide (n := 9)).1 ?_
  refine callsIn_of_wp_marks Tryd.func25 rfl trivial ?_ rfl
  simp only [Tryd.ntmps25, List.size_toArray, List.length_cons, List.length_nil, Nat.reduceAdd, Nat.reduceSub, Array.replicate_succ, Array.replicate_zero, List.push_toArray, List.append_toArray, List.nil_append, List.cons_append]
  have HG := Lib.hid hG
  clear hG
  gi_wp2_with fail
  refine ⟨trivial, (callsIn_wide.2 (SplitSeq_any s dot _)).mono ?_⟩
  rintro e w' ⟨rfl, rfl⟩
  gi_wp2_with fail
  have hz : ((w.alloc (.cells #[.bool false] 4)).alloc (.cells #[.int .i64 0] 3)).heap.size = w.heap.size + 2 := by simp
  have hbel0 : Below w.heap.size w ((w.alloc (.cells #[.bool false] 4)).alloc (.cells #[.int .i64 0] 3)) := ((Below.refl _ w).alloc (Nat.le_refl _) _).alloc (by simp) _
  have hr0 : ((w.alloc (.cells #[.bool false] 4)).alloc (.cells #[.int .i64 0] 3)).heap[w.heap.size]? = some (.cells #[.bool false] 4 (0, 0)) := by
    rw [Below.heap_alloc _ _ _ (by simp)]; exact World.alloc_heap_new _ _
  have hn0 : ((w.alloc (.cells #[.bool false] 4)).alloc (.cells #[.int .i64 0] 3)).heap[w.heap.size + 1]? = some (.cells #[.int .i64 0] 3 (0, 0)) := by
    have := World.alloc_heap_new (w.alloc (.cells #[.bool false] 4)) (.cells #[.int .i64 0] 3); rwa [World.size_alloc] at this
  generalize hW0 : (w.alloc (.cells #[.bool false] 4)).alloc (.cells #[.int .i64 0] 3) = W0 at *
  have hz' : W0.heap.size = w.heap.size + 1 + 1 := hz
  have hit := split_Iter 8 (by omega) s dot hs (by decide) W0 (HG.out.below hbel0)
  obtain ⟨a0, a1, a2, az⟩ := seqW_at s dot W0
  have hbW : Below W0.heap.size W0 (seqW s dot W0) := (((Below.refl _ W0).alloc (Nat.le_refl _) _).alloc (by simp) _).alloc (by simp; omega) _
  rw [hz'] at hit a0 a1 a2 az hbW
  refine range_cuts rfl (by omega) (gf := 78) (lb := seqB (w.heap.size + 1 + 1)) rfl trivial (enters_of Tryd.func78 (by kernel_rfl) rfl) (L := 4) (B := w.heap.size + 1 + 1) (by rw [az]; omega)
    hit rfl
    (fun k W => PreI s w k W) (fun c k W => c = .ret ∧ PreX s w W)
    ?hI ?hIx ?h0 (fun v => { tmps := #[.string s, undef, .pointer (some ⟨w.heap.size, 0, none⟩), .pointer (some ⟨w.heap.size + 1, 0, none⟩), v, .string s, seqV (w.heap.size + 1 + 1), v, undef, undef, undef, undef, undef, undef, undef, undef, undef], defers := [] }) ?assign ?body ?done ?stop
  case hI =>
    intro k W W' h hh
    exact ⟨h.le, h.all, harm_block hh h.r (by omega) rfl, harm_block hh h.n (by omega) rfl, harm_below hh h.bel h.bel.size (by omega) (by omega)⟩
  case hIx =>
    rintro c k W W' ⟨rfl, h⟩ hh
    exact ⟨rfl, h.no, harm_block hh h.r (by omega) rfl, harm_below hh h.bel h.bel.size (by omega) (by omega)⟩
  case h0 =>
    exact ⟨by omega, rfl, (hbW.block _ (by omega)).trans hr0, (hbW.block _ (by omega)).trans hn0, hbel0.trans (hbW.mono (by omega))⟩
  case assign =>
    intro l v W K hK
    gi_wp2
    exact hK
  case body =>
    rintro l k v W hI hv hsz
    obtain ⟨p, rfl, hp⟩ : ∃ p, v = .string p ∧ (pieces dot s)[k]? = some p := by
      rw [List.getElem?_map] at hv
      obtain ⟨p, h1, h2⟩ := Option.map_eq_some_iff.1 hv
      exact ⟨p, h2.symm, h1⟩
    have cn := cell_of_one hI.n
    have fn := free_of_one hI.n
    have cr := cell_of_one hI.r
    have fr := free_of_one hI.r
    have hk4 := hI.le
    have HI := Lib.hid hI
    have hbig := HG.out.big
    have kn : ∀ v, Keeps 4 (w.heap.size + 1 + 1) W (W.setCell ⟨w.heap.size + 1, 0, none⟩ v) := fun v => Keeps.setCell W _ v (by show 4 ≤ w.heap.size + 1; omega) (by show w.heap.size + 1 < _; omega)
    have hlen : k < (pieces dot s).length := (List.getElem?_eq_some_iff.1 hp).1
    have hWb : ∀ v, Below w.heap.size w (W.setCell ⟨w.heap.size + 1, 0, none⟩ v) := fun v => hI.bel.setCell (p := ⟨w.heap.size + 1, 0, none⟩) (by show w.heap.size ≤ w.heap.size + 1; omega) _
    have r1 : ∀ v, (W.setCell ⟨w.heap.size + 1, 0, none⟩ v).heap[w.heap.size]? = some (.cells #[.bool false] 4 (0, 0)) := fun v => (Below.heap_setCell W ⟨w.heap.size + 1, 0, none⟩ _ _ (by show w.heap.size ≠ w.heap.size + 1; omega)).trans hI.r
    have n1 : ∀ v, (W.setCell ⟨w.heap.size + 1, 0, none⟩ v).heap[w.heap.size + 1]? = some (.cells #[v] 3 (0, 0)) := fun v => one_setCell hI.n
    have KN := Lib.hid kn
    have HP := Lib.hid hp
    have HR1 := Lib.hid r1
    have HN1 := Lib.hid n1
    have HWB := Lib.hid hWb
    clear kn hp r1 n1 hWb hI a0 a1 a2 az hit hz hz' hbW hr0 hn0 hW0 hv hbel0
    by_cases h4 : k = 4
    · subst h4
      have hno : Hid (preB s = false) := Lib.hid (by
        have : decide ((pieces dot s).length ≤ 4) = false := by simp; omega
        simp [preB, this])
      gi_wp2_with fail
      refine ⟨trivial, ?_⟩
      have cr5 := cell_of_one (HR1.out (.int .i64 5))
      have fr5 := free_of_one (HR1.out (.int .i64 5))
      gi_wp2_with fail
      exact ⟨(KN.out _).trans (Keeps.setCell _ _ _ (by show 4 ≤ w.heap.size; omega) (by show w.heap.size < _; omega)), rfl, hno.out, one_setCell (HR1.out _), (HWB.out _).setCell (p := ⟨w.heap.size, 0, none⟩) (Nat.le_refl _) _⟩
    · have hk3 : k ≤ 3 := by omega
      have hms := Lib.hid (fun W => mark_any p W)
      have hstep : Hid ((pieces dot s).take (k + 1) = (pieces dot s).take k ++ [p]) := Lib.hid (by rw [List.take_succ_eq_append_getElem hlen]; congr 2; exact (List.getElem?_eq_some_iff.1 HP.out).2)
      have d4 : decide ((4 : Int) < (k : Int) + 1) = false := by simp; omega
      clear h4
      gi_wp2_with fail
      refine ⟨trivial, (CallsIn.inRound l (callsIn_wide.2 (hms.out _))).mono ?_⟩
      rintro e w2 ⟨rfl, hb2⟩
      have HR2 := Lib.hid ((hb2.block _ (by have := (Array.getElem?_eq_some_iff.1 (HR1.out (.int .i64 ((k : Int) + 1)))).1; exact this)).trans (HR1.out (.int .i64 ((k : Int) + 1))))
      have HN2 := Lib.hid ((hb2.block _ (by have := (Array.getElem?_eq_some_iff.1 (HN1.out (.int .i64 ((k : Int) + 1)))).1; exact this)).trans (HN1.out (.int .i64 ((k : Int) + 1))))
      have HK2 : Hid (Keeps 4 (w.heap.size + 1 + 1) W w2) := Lib.hid ((KN.out _).trans (Keeps.below hb2))
      have HB2 : Hid (Below w.heap.size w w2) := Lib.hid ((HWB.out _).trans (hb2.mono (HWB.out _).size))
      clear hb2
      cases hm : markL p.data.toList with
      | true =>
        have HM := Lib.hid hm
        clear hm
        gi_wp2_with fail
        exact ⟨HK2.out, by omega, by rw [hstep.out, List.all_append, HI.out.all]; simp [HM.out], HR2.out, HN2.out, HB2.out⟩
      | false =>
        have hno : Hid (preB s = false) := Lib.hid (by
          have : (pieces dot s).all (fun p => markL p.data.toList) = false := by
            rw [← Bool.not_eq_true, List.all_eq_true]
            intro h
            have := h p (List.mem_of_getElem? HP.out)
            rw [hm] at this; cases this
          simp only [preB, this, Bool.and_false])
        have cr5 := cell_of_one HR2.out
        have fr5 := free_of_one HR2.out
        clear hm
        gi_wp2_with fail
        exact ⟨HK2.out.trans (Keeps.setCell _ _ _ (by show 4 ≤ w.heap.size; omega) (by show w.heap.size < _; omega)), rfl, hno.out, one_setCell HR2.out, HB2.out.setCell (p := ⟨w.heap.size, 0, none⟩) (Nat.le_refl _) _⟩
  case done =>
    rintro D W hI hK hD
    have cr := cell_of_one hI.r
    have fr := free_of_one hI.r
    have HI := Lib.hid hI
    have HK := Lib.hid hK
    have hDs : w.heap.size + 2 ≤ D := by rw [az] at hD; omega
    clear hI hK hD hit a0 a1 a2 az hbW hr0 hn0 hW0 hz hz'
    gi_wp2
    have hK2 : (W.setCell ⟨w.heap.size, 0, none⟩ (.bool true)).heap[D]? = some (.deferred (some [])) := (Below.heap_setCell W ⟨w.heap.size, 0, none⟩ _ _ (by show D ≠ w.heap.size; omega)).trans HK.out
    have r2 : ((W.setCell ⟨w.heap.size, 0, none⟩ (.bool true)).putObj D (.deferred none)).heap[w.heap.size]? = some (.cells #[.bool true] 4 (0, 0)) := (World.putObj_heap_other (by omega)).trans (one_setCell HI.out.r)
    have c2 := cell_of_one r2
    have hpre : preB s = true := by
      have h1 := HI.out.le
      have h2 := HI.out.all
      rw [List.length_map] at h1 h2
      rw [List.take_of_length_le (Nat.le_refl _)] at h2
      simp only [preB, h2, Bool.and_true, decide_eq_true_eq]; exact h1
    refine ⟨by simp, .inl ⟨_, _, rfl, run_takeDeferred hK2, ?_⟩⟩
    exact ⟨.bool true, by simp [results, Tryd.results25, go_sem, c2], by rw [hpre], (HI.out.bel.setCell (p := ⟨w.heap.size, 0, none⟩) (Nat.le_refl _) _).grown (grownBy_put _ _ _) (by simpa using HI.out.bel.size) (fun j e => by cases e; omega)⟩
  case stop =>
    rintro D c k W ⟨rfl, hX⟩ hK hD
    have cr := cell_of_one hX.r
    have hDs : w.heap.size + 2 ≤ D := by rw [az] at hD; omega
    have HX := Lib.hid hX
    have HK := Lib.hid hK
    clear hX hK hD hit a0 a1 a2 az hbW hr0 hn0 hW0 hz hz'
    gi_wp2
    have r2 : (W.putObj D (.deferred none)).heap[w.heap.size]? = some (.cells #[.bool false] 4 (0, 0)) := (World.putObj_heap_other (by omega)).trans HX.out.r
    have c2 := cell_of_one r2
    refine ⟨by simp, .inl ⟨_, _, rfl, run_takeDeferred HK.out, ?_⟩⟩
    exact ⟨.bool false, by simp [results, Tryd.results25, go_sem, c2], by rw [HX.out.no], HX.out.bel.grown (grownBy_put _ _ _) HX.out.bel.size (fun j e => by cases e; omega)⟩
end Go.Proofs.YtkilaemngejplaaDoor
