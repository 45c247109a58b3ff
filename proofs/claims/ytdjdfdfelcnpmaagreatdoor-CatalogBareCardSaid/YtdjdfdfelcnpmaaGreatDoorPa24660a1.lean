/- Words and laws that the theorem leans on (part 4). -/
import Derived.Test.YtdjdfdfelcnpmaaGreatDoorP91203479
import Derived.Test.YtdjdfdfelcnpmaaGreatDoorPe8c6d24c
import Derived.Test.YtdjdfdfelcnpmaaGreatDoorP99dee1b1
import Derived.Laws.OwnMore
import Derived.Laws.Cover3
import Derived.Laws.BytesArg
import Derived.Lib.Join
import Derived.Shelf.Strings.SlTrimAscii
import Derived.Laws.Entries
import Derived.Laws.Cover2
set_option linter.unusedVariables false
set_option linter.unusedSimpArgs false

set_option linter.unusedVariables false
set_option linter.unusedSimpArgs false
namespace Go.Lg
open Go Go.RowKit Go.Lg.Cuts
theorem Fr.trans {w0 W W' : World} {o0 o1 : Nat → Prop} {M0 M1 : Nat → Nat → Prop} (h : Fr w0 o0 M0 W) (k : Fr W o1 M1 W') (ho : ∀ b, o1 b → o0 b ∨ w0.heap.size ≤ b) (hM : ∀ b o, M0 b o → M1 b o) : Fr w0 o0 M0 W' := {
  os := k.os.trans h.os
  tape := k.tape.trans h.tape
  output := k.output.trans h.output
  size := Nat.le_trans h.size k.size
  block := fun b hb hn => (k.block b (Nat.lt_of_lt_of_le hb h.size) (fun h1 => by rcases ho b h1 with h2 | h2; exact hn h2; omega)).trans (h.block b hb hn)
  shape := fun b cs ty z hz => by
    obtain ⟨cs1, h1, h2⟩ := h.shape b cs ty z hz
    obtain ⟨cs2, h3, h4⟩ := k.shape b cs1 ty z h1
    exact ⟨cs2, h3, h4.trans h2⟩
  keep := fun b o hb => (k.keep b o (hM b o hb)).trans (h.keep b o hb) }
mutual
def AV.refsIn (ps : List Loc) : AV → Bool
  | .ptr k _ => ps.any (fun p => p.eqb k)
  | .sl k _ _ => ps.any (fun p => p.eqb k)
  | .agg xs => refsInL ps xs
  | .tup xs => refsInL ps xs
  | .fn _ xs => refsInL ps xs
  | .blk _ xs => refsInL ps xs
  | _ => true
def refsInL (ps : List Loc) : List AV → Bool
  | [] => true
  | x :: xs => x.refsIn ps && refsInL ps xs
end
theorem refsInL_mem {ps : List Loc} : ∀ {xs : List AV} {x : AV}, refsInL ps xs = true → x ∈ xs → x.refsIn ps = true
  | y :: ys, x, h, hx => by
    simp only [refsInL, Bool.and_eq_true] at h
    rcases List.mem_cons.1 hx with rfl | hx
    · exact h.1
    · exact refsInL_mem h.2 hx
theorem refsIn_of {ps : List Loc} {κ : Loc} {v : AV} (h : Refs κ v) (hv : v.refsIn ps = true) : κ ∈ ps := by
  induction h with
  | ptr off =>
    simp only [AV.refsIn] at hv
    obtain ⟨p, hp, he⟩ := List.any_eq_true.1 hv
    exact Loc.eqb_iff.1 he ▸ hp
  | sl len cap =>
    simp only [AV.refsIn] at hv
    obtain ⟨p, hp, he⟩ := List.any_eq_true.1 hv
    exact Loc.eqb_iff.1 he ▸ hp
  | agg xs x hx _ ih => simp only [AV.refsIn] at hv; exact ih (refsInL_mem hv hx)
  | tup xs x hx _ ih => simp only [AV.refsIn] at hv; exact ih (refsInL_mem hv hx)
  | fn f xs x hx _ ih => simp only [AV.refsIn] at hv; exact ih (refsInL_mem hv hx)
  | blk ty xs x hx _ ih => simp only [AV.refsIn] at hv; exact ih (refsInL_mem hv hx)
def okS (ps : List Loc) : Store → Bool
  | [] => true
  | (l, v) :: r => (match l with
    | .s _ => !v.isOwn && v.refsIn ps
    | .l _ => v.refsIn ps
    | .e _ => false) && okS ps r
theorem okS_lk {ps : List Loc} {l : Loc} {v : AV} : ∀ {m : Store}, okS ps m = true → lk m l = some v → v.refsIn ps = true ∧ (∀ t, l = .s t → v.isOwn = false) ∧ ∀ j, l ≠ .e j
  | (k, u) :: r, h, hl => by
    simp only [okS, Bool.and_eq_true] at h
    rw [lk_cons] at hl
    split at hl
    · rename_i e; subst e
      obtain rfl := Option.some.inj hl
      cases k with
      | s t => simp only [Bool.and_eq_true, Bool.not_eq_true'] at h; exact ⟨h.1.2, fun _ _ => h.1.1, (fun j e => nomatch e)⟩
      | l t => exact ⟨h.1, (fun t e => nomatch e), (fun j e => nomatch e)⟩
      | e j => exact absurd h.1 (by simp)
    · exact okS_lk h.2 hl
def pinsB (m : Store) : List Loc → Bool
  | [] => true
  | p :: r => (match p, lk m p with
    | .l _, some (.blk _ _) => true
    | _, _ => false) && pinsB m r
theorem pinsB_at {m : Store} {κ : Loc} : ∀ {ps : List Loc}, pinsB m ps = true → κ ∈ ps → κ.isBlk = true ∧ (∃ ty cells, lk m κ = some (.blk ty cells)) ∧ ∀ j, κ ≠ .e j
  | p :: r, h, hk => by
    simp only [pinsB, Bool.and_eq_true] at h
    rcases List.mem_cons.1 hk with rfl | hk
    · have h := h.1
      split at h
      · rename_i he; exact ⟨rfl, ⟨_, _, he⟩, (fun j e => nomatch e)⟩
      · cases h
    · exact pinsB_at h.2 hk
section
variable {P : Program} {Γ : Ctx} {M : Nat → Nat → Prop} {Ow : Loc → Nat → Option Nat} {n : Nat} {m : Store} {a : Act} {w : World}
theorem Rel.filt (h : Rel P Γ M Ow n m a w) {pins : List Loc} (p : Loc → Nat → Bool) (hok : okS pins m = true) (hpin : ∀ κ, Γ.pin κ ≠ none → κ ∈ pins) (hpp : ∀ κ b, κ ∈ pins → Ow κ 0 = some b → p κ b = true)
    (hblk : ∀ κ b, lk m κ ≠ none → κ.isBlk = true → Ow κ 0 = some b → p κ b = true) (hcell : ∀ κ i b, lk m κ ≠ none → κ.isBlk = true → Ow κ (i + 1) = some b → (∃ cs ty, w.heap[b]? = some (.cells cs ty (0, 0))) → p κ b = true) :
    Rel P Γ M (fun l i => (Ow l i).filter (p l)) n m a w := by
  have up : ∀ {l i b}, (Ow l i).filter (p l) = some b → Ow l i = some b := fun e => (Option.filter_eq_some_iff.1 e).1
  have vr : ∀ {x : AV} {v : Value}, x.refsIn pins = true → VRel w M (fun κ => Ow κ 0) x v → VRel w M (fun κ => (Ow κ 0).filter (p κ)) x v := fun hx hv =>
    hv.mono (fun b o hb => ⟨hb, rfl⟩) (fun κ b _ hr e => Option.filter_eq_some_iff.2 ⟨e, hpp κ b (refsIn_of hr hx) e⟩)
  exact {
    size := h.size
    defers := h.defers
    slot := fun t v hv => by
      obtain ⟨o1, o2, _⟩ := okS_lk hok hv
      exact srel_of (vr o1 (vrel_of (h.slot t v hv) (o2 t rfl))) _
    blk := fun κ v hk hv => by
      obtain ⟨ty, cells, c, cs, rfl, ho, hc, hsz, hn, h1, h2⟩ := h.blk κ v hk hv
      have hne : lk m κ ≠ none := by rw [hv]; simp
      obtain ⟨o1, _, _⟩ := okS_lk hok hv
      refine ⟨ty, cells, c, cs, rfl, Option.filter_eq_some_iff.2 ⟨ho, hblk κ c hne hk ho⟩, hc, hsz, hn, h1, fun i y v hy hv => ?_⟩
      have h3 := h2 i y v hy hv
      have h4 : y.refsIn pins = true := refsInL_mem (by simpa only [AV.refsIn] using o1) (List.mem_of_getElem? hy)
      cases y with
      | own ty' xs =>
        obtain ⟨i', hi', hx, h5⟩ := h3
        refine ⟨i', hi', hx, ?_⟩
        rcases h5 with h5 | ⟨b, off, cap, cs', e1, rest⟩
        · exact .inl h5
        · exact .inr ⟨b, off, cap, cs', Option.filter_eq_some_iff.2 ⟨e1, hcell κ i b hne hk e1 ⟨_, _, rest.2.2.1⟩⟩, rest⟩
      | raw ty' z xs =>
        obtain ⟨i', hi', hx, h5⟩ := h3
        refine ⟨i', hi', hx, ?_⟩
        rcases h5 with h5 | ⟨b, off, cap, cs', e1, rest⟩
        · exact .inl h5
        · exact .inr ⟨b, off, cap, cs', Option.filter_eq_some_iff.2 ⟨e1, hcell κ i b hne hk e1 ⟨_, _, rest.2.2.1⟩⟩, rest⟩
      | rtup ty' z xs rest =>
        obtain ⟨cv, cs2, e0, hraw, h6, h7⟩ := h3
        obtain ⟨i', hi', hx, h5⟩ := hraw
        refine ⟨cv, cs2, e0, ⟨i', hi', hx, ?_⟩, h6, h7⟩
        rcases h5 with h5 | ⟨b, off, cap, cs', e1, rest⟩
        · exact .inl h5
        · exact .inr ⟨b, off, cap, cs', Option.filter_eq_some_iff.2 ⟨e1, hcell κ i b hne hk e1 ⟨_, _, rest.2.2.1⟩⟩, rest⟩
      | _ => exact srel_of (vr h4 (vrel_of h3 rfl)) _
    inj := fun l i l' i' b e e' => h.inj l i l' i' b (up e) (up e')
    lt := fun l i b e => h.lt l i b (up e)
    mine := fun l i b e => h.mine l i b (up e)
    mlt := h.mlt
    mold := h.mold
    mnew := h.mnew
    fr := h.fr
    pin := fun κ b hk hp => by
      have e := h.pin κ b hk hp
      exact Option.filter_eq_some_iff.2 ⟨e, hpp κ b (hpin κ (by rw [hp]; simp)) e⟩ }
def Loc.notE : Loc → Bool
  | .e _ => false
  | _ => true
theorem Rel.harm (h : Rel P Γ M Ow n m a w) {b E : Nat} {w' : World} (hh : Harm b E w w') (hds : a.defers = Γ.ds) (hE : Γ.w0.heap.size ≤ E) (hb0 : Γ.own0 b ∨ Γ.w0.heap.size ≤ b) (hbO : ∀ l i, Ow l i ≠ some b) (hbM : ∀ o, ¬ M b o) : Rel P Γ M Ow n m a w' := by
  obtain ⟨row, hg, hs, hrow⟩ := hh
  have blk_ : ∀ (c : Nat) (o : Obj), w.heap[c]? = some o → o.isCells = true → c ≠ b → w'.heap[c]? = some o := fun c o hc ho hn => by
    refine (hg.block c (Array.getElem?_eq_some_iff.1 hc).1 (fun e => ?_)).trans hc
    rcases hrow c e.symm with e1 | ⟨_, o1, o2, h1, _, h2, _⟩
    · exact hn e1
    · rw [hc] at h1; obtain rfl := Option.some.inj h1; rw [ho] at h2; cases h2
  have cell_ : ∀ c o, M c o → M c o ∧ w'.cell? ⟨c, o, none⟩ = w.cell? ⟨c, o, none⟩ := fun c o hM => ⟨hM, by
    by_cases hr : row = some c
    · rcases hrow c hr with e1 | ⟨_, o1, o2, h1, h3, h2, h4⟩
      · subst e1; exact absurd hM (hbM o)
      · unfold World.cell?
        rw [h1, h3]
        cases o1 <;> cases o2 <;> first | rfl | (cases h2; done) | (cases h4; done)
    · unfold World.cell?
      rw [hg.block c (h.mlt c o hM) (fun e => hr e.symm)]⟩
  have sr : ∀ {x : AV} {v : Value} {l : Loc} {i : Nat}, SRel P w M Ow x v (Ow l i) → SRel P w' M Ow x v (Ow l i) := fun hv =>
    hv.mono cell_ (fun κ b _ _ e => e) (fun c e => ⟨e, fun cs ty hc => blk_ c _ hc rfl (fun e' => hbO _ _ (e' ▸ e)), fun k hk => hk⟩)
  exact {
    size := h.size
    defers := ⟨[], hds, List.nodup_nil, fun D hD => by cases hD⟩
    slot := fun t v hv => sr (h.slot t v hv)
    blk := fun κ v hk hv => by
      obtain ⟨ty, cells, c, cs, rfl, ho, hc, hsz, hn, h1, h2⟩ := h.blk κ v hk hv
      exact ⟨ty, cells, c, cs, rfl, ho, blk_ c _ hc rfl (fun e => hbO _ _ (e ▸ ho)), hsz, hn, h1, fun i y v hy hv => sr (h2 i y v hy hv)⟩
    inj := h.inj
    lt := fun l i c hc => Nat.lt_of_lt_of_le (h.lt l i c hc) hg.size
    mine := h.mine
    mlt := fun c o hc => Nat.lt_of_lt_of_le (h.mlt c o hc) hg.size
    mold := h.mold
    mnew := h.mnew
    fr := {
      os := hg.os.trans h.fr.os
      tape := hg.tape.trans h.fr.tape
      output := hg.output.trans h.fr.output
      size := Nat.le_trans h.fr.size hg.size
      block := fun c hc hn => (hg.block c (Nat.lt_of_lt_of_le hc h.fr.size) (fun e => by
        rcases hrow c e.symm with e1 | ⟨h1, _⟩
        · subst e1; rcases hb0 with h2 | h2; exact hn h2; omega
        · omega)).trans (h.fr.block c hc hn)
      shape := fun c cs ty z hz => by
        obtain ⟨cs1, h1, h2⟩ := h.fr.shape c cs ty z hz
        obtain ⟨cs2, h3, h4⟩ := hs c cs1 ty z h1
        exact ⟨cs2, h3, h4.trans h2⟩
      keep := fun c o hc => (cell_ c o (h.mold c o hc)).2.trans (h.fr.keep c o hc) }
    pin := h.pin }
structure RInv (P : Program) (Γ : Ctx) (n : Nat) (m : Store) (a : Act) (Bx : Nat → Prop) (b0 : Nat) (Ds : List Nat) (W : World) (M : Nat → Nat → Prop) (Ow : Loc → Nat → Option Nat) : Prop where
  rel : Rel P { Γ with ds := a.defers } M Ow n m a W
  ow : ∀ l i b, Ow l i = some b → (∀ j, l ≠ .e j) ∧ ¬ Bx b
  mb : ∀ o, ¬ M b0 o
  ds : ∀ D, D ∈ Ds → W.heap[D]? = some (.deferred (some []))
theorem RInv.harm {Bx : Nat → Prop} {b0 : Nat} {Ds : List Nat} {W W' : World} {E : Nat} (h : RInv P Γ n m a Bx b0 Ds W M Ow) (hh : Harm b0 E W W') (hE : Γ.w0.heap.size ≤ E) (hb0 : Γ.own0 b0 ∨ Γ.w0.heap.size ≤ b0) (hB : Bx b0) (hD : ∀ D, D ∈ Ds → D < E ∧ D ≠ b0) : RInv P Γ n m a Bx b0 Ds W' M Ow where
  rel := h.rel.harm hh rfl hE hb0 (fun l i e => (h.ow l i b0 e).2 hB) h.mb
  ow := h.ow
  mb := h.mb
  ds := fun D hDm => by
    obtain ⟨row, hg, _, hrow⟩ := hh
    refine (hg.block D (Array.getElem?_eq_some_iff.1 (h.ds D hDm)).1 (fun e => ?_)).trans (h.ds D hDm)
    obtain ⟨h1, h2⟩ := hD D hDm
    rcases hrow D e.symm with e1 | ⟨e1, _⟩
    · exact h2 e1
    · omega
def OutOf (base mX m' : Store) : Prop := ∀ l v, lk mX l = some v → match l with
  | .s t => lk base (.s t) = some v
  | l => lk m' l = some v
def OutL (base : Store) : Store → Store → Prop
  | [], _ => True
  | (l, v) :: r, m' => (match l with
    | .s t => lk base (.s t) = some v
    | l => lk m' l = some v) ∧ OutL base r m'
theorem OutL.out {base : Store} : ∀ {mX m' : Store}, OutL base mX m' → OutOf base mX m'
  | (k, u) :: r, m', h, l, v, hl => by
    rw [lk_cons] at hl
    split at hl
    · rename_i e; subst e; obtain rfl := Option.some.inj hl; exact h.1
    · exact OutL.out h.2 l v hl
theorem RInv.round {G : Env} {pins : List Loc} {Bx : Nat → Prop} {b0 : Nat} {Ds : List Nat} {W : World} {S0 Sk : Store} {l : Nat} {body : Code} {Qr : Exit → Store → Prop} {t t' : Nat} {p : Value}
    (hG : Γ.G = G.st) (h : RInv P Γ n Sk a Bx b0 Ds W M Ow) (hl : ∃ r, W.heap[l]? = some (.loop r)) (hBl : Bx l) (hBW : ∀ b, Bx b → b < W.heap.size) (hp1 : p.oneCell' = true) (ht : t < n) (ht' : t' < n)
    (hDs : ∀ D, D ∈ Ds → Bx D) (hBb : Bx b0)
    (hpins : ∀ κ, Γ.pin κ ≠ none → κ ∈ pins) (hok : okS pins Sk = true) (hslots : ∀ t v, lk S0 (.s t) = some v → lk Sk (.s t) = some v)
    (hpb : pinsB Sk pins = true)
    (hbody : Tr P ⟨G.st, pins⟩ n body ((.s t', .tr (.sc p)) :: (.s t, .tr (.sc p)) :: Sk) Qr) :
    body.wpIn (FW (some l)) 0 P (fun e a' W' => ∃ m', Qr e m' ∧ Keeps (fun r => Bx r ∨ ∃ w1, Γ.G w1 ∧ r < w1.heap.size ∧ (∀ b, Γ.own0 b → w1.heap.size ≤ b) ∧ w1.heap.size ≤ Γ.w0.heap.size) W W' ∧
      ∀ mX, OutOf S0 mX m' → okS pins mX = true → ∃ M' Ow', RInv P Γ n mX a Bx b0 Ds W' M' Ow') (({ tmps := a.tmps.setIfInBounds t p, defers := [] } : Act).put (some t') p) W := by
  have hr := h.rel
  have hown : ∀ b, (∃ l i, Ow l i = some b) → Γ.own0 b ∨ Γ.w0.heap.size ≤ b := by
    rintro b ⟨l, i, e⟩
    rcases hr.mine l i b e with h1 | h1 | ⟨j, h1, _⟩
    · exact .inl h1
    · exact .inr h1
    · exact absurd h1 ((h.ow l i b e).1 j)
  have hfr : ∀ W', Fr W (fun b => ∃ l i, Ow l i = some b) M W' → Fr Γ.w0 Γ.own0 Γ.M0 W' := fun W' hf => Fr.trans hr.fr hf hown hr.mold
  obtain ⟨w1, hw1, hw2, hw3⟩ := Γ.base
  let Γ' : Ctx := {
    w0 := W, own0 := fun b => ∃ l i, Ow l i = some b, M0 := M, ro := fun _ => False, G := Γ.G
    stab := fun W' hf => Γ.stab W' (hfr W' hf)
    ds := [], rd := some l
    rl := fun l' e => by obtain rfl := Option.some.inj e; exact ⟨hl, fun ⟨l2, i, e⟩ => (h.ow l2 i _ e).2 hBl⟩
    pin := fun κ => if pins.contains κ = true then Ow κ 0 else none
    base := ⟨w1, hw1, fun b hb => by rcases hown b hb with h1 | h1; exact hw2 b h1; exact Nat.le_trans hw3 h1, Nat.le_trans hw3 hr.fr.size⟩ }
  have hΓ' : Env.ok ⟨G.st, pins⟩ Γ' := ⟨hG, fun κ hκ => by
    by_cases e : pins.contains κ = true
    · exact List.contains_iff_mem.1 e
    · exact absurd (if_neg e) hκ⟩
  have hr0 : Rel P Γ' M Ow n Sk { tmps := a.tmps, defers := [] } W := {
    size := hr.size
    defers := ⟨[], rfl, List.nodup_nil, fun D hD => by cases hD⟩
    slot := hr.slot
    blk := hr.blk
    inj := hr.inj
    lt := hr.lt
    mine := fun l i b e => .inl ⟨l, i, e⟩
    mlt := hr.mlt
    mold := fun b o hb => hb
    mnew := fun b o hb => .inl hb
    fr := ⟨rfl, rfl, rfl, Nat.le_refl _, fun _ _ _ => rfl, fun b cs ty z h => ⟨cs, h, rfl⟩, fun _ _ _ => rfl⟩
    pin := fun κ b hk hp => by
      have hp : (if pins.contains κ = true then Ow κ 0 else none) = some b := hp
      split at hp
      · exact hp
      · cases hp }
  have hr1 := (hr0.put ht (VRel.tr (.sc p) p (.sc p hp1))).put ht' (VRel.tr (.sc p) p (.sc p hp1))
  refine Go.wpIn_mono (hbody Γ' hΓ' _ W ⟨M, Ow, hr1⟩) ?_
  rintro e a' W' ⟨m', hq, M', Ow', hr'⟩
  refine ⟨m', hq, ⟨hr'.fr.size, fun r hS hlt => hr'.fr.block r hlt ?_⟩, fun mX hX hokX => ⟨M', fun l i => (Ow' l i).filter (fun _ => l.notE), ?_⟩⟩
  · rintro ⟨l2, i, e2⟩
    rcases hS with hS | ⟨w2, _, h3, h4, h5⟩
    · exact (h.ow l2 i r e2).2 hS
    · rcases hown r ⟨l2, i, e2⟩ with h6 | h6
      · have := h4 r h6; omega
      · omega
  · have hcell : ∀ b o, M b o → M' b o ∧ W'.cell? ⟨b, o, none⟩ = W.cell? ⟨b, o, none⟩ := fun b o hb => ⟨hr'.mold b o hb, hr'.fr.keep b o hb⟩
    have hbk : ∀ κ b, κ ∈ pins → Ow κ 0 = some b → Ow' κ 0 = some b := fun κ b hk e => by
      obtain ⟨h1, _, _⟩ := pinsB_at hpb hk
      exact hr'.pin κ b h1 (show (if pins.contains κ = true then Ow κ 0 else none) = some b by rw [if_pos (List.contains_iff_mem.2 hk)]; exact e)
    have hmine' : ∀ l i b, Ow' l i = some b → (∃ l i, Ow l i = some b) ∨ W.heap.size ≤ b := fun l i b e => by
      rcases hr'.mine l i b e with h1 | h1 | ⟨j, _, h1⟩
      · exact .inl h1
      · exact .inr h1
      · exact h1.elim
    have hrel : Rel P { Γ with ds := a.defers } M' Ow' n mX a W' := {
      size := hr.size
      defers := ⟨[], rfl, List.nodup_nil, fun D hD => by cases hD⟩
      slot := fun q v hv => by
        have h1 : lk S0 (.s q) = some v := hX (.s q) v hv
        have h2 := hslots q v h1
        obtain ⟨o1, o2, _⟩ := okS_lk hok h2
        have h3 := vrel_of (hr.slot q v h2) (o2 q rfl)
        exact srel_of (h3.mono hcell (fun κ b hk hrf e => hbk κ b (refsIn_of hrf o1) e)) _
      blk := fun κ v hk hv => by
        have h1 := hX κ v hv
        cases κ with
        | s q => cases hk
        | l q => exact hr'.blk _ v rfl h1
        | e q => exact hr'.blk _ v rfl h1
      inj := hr'.inj
      lt := hr'.lt
      mine := fun l i b e => by
        rcases hmine' l i b e with h1 | h1
        · rcases hown b h1 with h2 | h2
          · exact .inl h2
          · exact .inr (.inl h2)
        · exact .inr (.inl (Nat.le_trans hr.fr.size h1))
      mlt := hr'.mlt
      mold := fun b o hb => hr'.mold b o (hr.mold b o hb)
      mnew := fun b o hb => by
        rcases hr'.mnew b o hb with h1 | h1 | h1
        · exact hr.mnew b o h1
        · rcases hown b h1 with h2 | h2
          · exact .inr (.inl h2)
          · exact .inr (.inr h2)
        · exact .inr (.inr (Nat.le_trans hr.fr.size h1))
      fr := hfr W' hr'.fr
      pin := fun κ b hk hp => hbk κ b (hpins κ (by rw [show Γ.pin κ = some b from hp]; simp)) (hr.pin κ b hk hp) }
    exact {
      rel := hrel.filt (pins := pins) (fun l _ => l.notE) hokX hpins
        (fun κ b hk _ => by
          obtain ⟨_, _, h3⟩ := pinsB_at hpb hk
          cases κ with
          | e j => exact absurd rfl (h3 j)
          | _ => rfl)
        (fun κ b hne _ _ => by
          obtain ⟨v, hv⟩ := Option.ne_none_iff_exists'.1 hne
          cases κ with
          | e j => exact absurd rfl ((okS_lk hokX hv).2.2 j)
          | _ => rfl)
        (fun κ i b hne _ _ _ => by
          obtain ⟨v, hv⟩ := Option.ne_none_iff_exists'.1 hne
          cases κ with
          | e j => exact absurd rfl ((okS_lk hokX hv).2.2 j)
          | _ => rfl)
      ow := fun l i b e => by
        obtain ⟨e1, e2⟩ := Option.filter_eq_some_iff.1 e
        have h1 := hmine' l i b e1
        refine ⟨(fun j ej => by subst ej; cases e2), fun hB => ?_⟩
        rcases h1 with ⟨l2, i2, e2⟩ | h1
        · exact (h.ow l2 i2 b e2).2 hB
        · have := hBW b hB; omega
      mb := fun o hb => by
        rcases hr'.mnew b0 o hb with h1 | ⟨l2, i2, e2⟩ | h1
        · exact h.mb o h1
        · exact (h.ow l2 i2 b0 e2).2 hBb
        · have := hBW b0 hBb
          have h1 : W.heap.size ≤ b0 := h1
          omega
      ds := fun D hD => by
        refine (hr'.fr.block D (Array.getElem?_eq_some_iff.1 (h.ds D hD)).1 ?_).trans (h.ds D hD)
        rintro ⟨l2, i, e2⟩
        exact (h.ow l2 i D e2).2 (hDs D hD) }
theorem Rel.reds (h : Rel P Γ M Ow n m a w) : Rel P { Γ with ds := a.defers } M Ow n m a w := {
  size := h.size
  defers := ⟨[], rfl, List.nodup_nil, fun D hD => by cases hD⟩
  slot := h.slot
  blk := h.blk
  inj := h.inj
  lt := h.lt
  mine := h.mine
  mlt := h.mlt
  mold := h.mold
  mnew := h.mnew
  fr := h.fr
  pin := h.pin }
theorem Rel.unds {ds : List Deferred} (h : Rel P { Γ with ds := ds } M Ow n m a w) (d : List Deferred) (hd : ∃ Ds : List Nat, d = Ds.map markD ++ Γ.ds ∧ Ds.Nodup ∧ ∀ D, D ∈ Ds → Γ.w0.heap.size ≤ D ∧ w.heap[D]? = some (.deferred (some []))) : Rel P Γ M Ow n m { a with defers := d } w := {
  size := h.size
  defers := hd
  slot := h.slot
  blk := h.blk
  inj := h.inj
  lt := h.lt
  mine := h.mine
  mlt := h.mlt
  mold := h.mold
  mnew := h.mnew
  fr := h.fr
  pin := h.pin }
theorem FW.any {ro : Option Nat} {k k' : Nat} {c : Code} {Q : Exit → Act → World → Prop} (h : c.wpIn (FW ro) k P Q a w) : c.wpIn (FW ro) k' P Q a w := fun b i cs h1 h2 _ => h b i cs h1 h2 (fun d hd => by cases ro <;> cases hd)
theorem Rel.one {κ : Loc} {ty : TypeId} {v : Value} (h : Rel P Γ M Ow n m a w) (hk : κ.isBlk = true) (hl : lk m κ = some (.blk ty [.tr (.sc v)])) : ∃ b, Ow κ 0 = some b ∧ w.heap[b]? = some (.cells #[v] ty (0, 0)) ∧ ∀ o, ¬ M b o := by
  obtain ⟨ty', cells, b, cs, e, ho, hh, hsz, hn, h1, h2⟩ := h.blk κ _ hk hl
  obtain ⟨rfl, rfl⟩ : ty = ty' ∧ [AV.tr (.sc v)] = cells := by injection e with e1 e2; exact ⟨e1, e2⟩
  refine ⟨b, ho, ?_, hn⟩
  have hs1 : cs.size = 1 := hsz
  have h3 := h2 0 _ cs[0] rfl (by simp [hs1])
  have h4 : VRel w M (fun κ => Ow κ 0) (.tr (.sc v)) cs[0] := h3
  have h5 : cs[0] = v := by
    generalize cs[0] = q at h4
    cases h4 with | tr _ _ h => cases h; rfl
  rw [hh]
  congr 2
  apply Array.ext
  · simp [hs1]
  · intro i h6 h7
    obtain rfl : i = 0 := by omega
    simpa using h5
def codeOf (e : Exit) (c : Code) : Prop := (e = .ret ∧ c = .ret) ∨ (∃ id, e = .exit id ∧ c = .exit id) ∨ ∃ l, e = .goto l ∧ c = .goto l
def roundQ (pins : List Loc) (S0 : Store) (Nx : Store → Prop) (Q : Exit → Store → Prop) : Exit → Store → Prop
  | .normal, m' => Nx m'
  | .ret, m' => ∃ mX, OutL S0 mX m' ∧ okS pins mX = true ∧ Q .ret mX
  | .exit id, m' => ∃ mX, OutL S0 mX m' ∧ okS pins mX = true ∧ Q (.exit id) mX
  | .goto l, m' => ∃ mX, OutL S0 mX m' ∧ okS pins mX = true ∧ Q (.goto l) mX
  | _, _ => False
theorem Tr.range {G : Env} {g t t' : Nat} {assign body : Code} {Q : Exit → Store → Prop} {gf : FuncId} {κ0 κ1 κ2 : Loc} {s sep : ByteArray} {tst ti : TypeId} {xs : List ByteArray} {mx : Nat} (pins : List Loc) (S : Nat → Store) (inv : Nat → Prop)
    (hg : lk m (.s g) = some (.fn gf [.ptr κ1 0, .ptr κ0 0, .ptr κ2 0])) (hb0 : lk m κ0 = some (.blk tst [.tr (.sc (.string s))])) (hb1 : lk m κ1 = some (.blk tst [.tr (.sc (.string sep))])) (hb2 : lk m κ2 = some (.blk ti [.tr (.sc (.int .i64 0))]))
    (hL : (κ0.isL && κ1.isL && κ2.isL && !κ0.eqb κ1 && !κ0.eqb κ2) = true) (hmx : ∀ w, G.st w → mx < w.heap.size)
    (hit : ∀ w b0 b1 b2, G.st w → b1 ≠ b0 → b2 ≠ b0 → mx ≠ b0 → w.heap[b0]? = some (.cells #[.string s] tst (0, 0)) → w.heap[b1]? = some (.cells #[.string sep] tst (0, 0)) → w.heap[b2]? = some (.cells #[.int .i64 0] ti (0, 0)) →
      Iter Fence.wide 8 P gf #[.pointer (some ⟨b1, 0, none⟩), .pointer (some ⟨b0, 0, none⟩), .pointer (some ⟨b2, 0, none⟩)] (fun r => r = b0 ∨ r = b1 ∨ r = b2 ∨ r = mx) b0 (xs.map Value.string) w)
    (eg : ∀ args w, (callFunc gf args).run P w = .ok (.enter gf args) w) (ht : Nat.blt t n = true) (ht' : Nat.blt t' n = true)
    (hassign : ∀ (l k : Nat) (a : Act) (W : World) (K : Act → World → Prop), K (a.put (some t') (a.tmps.getD t undef)) W → assign.wpIn (FW (some l)) k P (Exit.then K fun _ _ _ => False) a W)
    (h0 : inv 0) (hs : Sub (S 0) m) (hok : ∀ k, okS pins (S k) = true) (hpb : ∀ k, pinsB (S k) pins = true) (hslots : ∀ k q v, lk (S 0) (.s q) = some v → lk (S k) (.s q) = some v)
    (hno : lk (S 0) κ0 = none ∧ lk (S 0) κ1 = none ∧ lk (S 0) κ2 = none) (hGp : G.pins.all (pins.contains ·) = true)
    (round : ∀ k p, xs[k]? = some p → inv k → Tr P ⟨G.st, pins⟩ n body ((.s t', .tr (.sc (.string p))) :: (.s t, .tr (.sc (.string p))) :: S k) (roundQ pins (S 0) (fun m' => inv (k + 1) ∧ OutL (S 0) (S (k + 1)) m') Q))
    (done : inv xs.length → Q .normal (S xs.length)) :
    Tr P G n (.rangeFunc (.tmp g) #[t] assign body) m Q := by
  intro Γ hΓ a w hrx
  obtain ⟨M, Ow, hr⟩ := hrx
  simp only [Bool.and_eq_true, Bool.not_eq_true'] at hL
  obtain ⟨⟨⟨⟨l0, l1⟩, l2⟩, l3⟩, l4⟩ := hL
  have k0 := Loc.isL_blk l0
  have k1 := Loc.isL_blk l1
  have k2 := Loc.isL_blk l2
  have hne1 : κ0 ≠ κ1 := fun e => by rw [e, Loc.eqb_self] at l3; cases l3
  have hne2 : κ0 ≠ κ2 := fun e => by rw [e, Loc.eqb_self] at l4; cases l4
  have htn : t < n := Nat.lt_of_succ_le (Nat.le_of_ble_eq_true ht)
  have htn' : t' < n := Nat.lt_of_succ_le (Nat.le_of_ble_eq_true ht')
  obtain ⟨b0, o0, c0, hM0⟩ := hr.one k0 hb0
  obtain ⟨b1, o1, c1, _⟩ := hr.one k1 hb1
  obtain ⟨b2, o2, c2, _⟩ := hr.one k2 hb2
  have n1 : b1 ≠ b0 := fun e => hne1 (hr.inj κ0 0 κ1 0 b0 o0 (e ▸ o1)).1
  have n2 : b2 ≠ b0 := fun e => hne2 (hr.inj κ0 0 κ2 0 b0 o0 (e ▸ o2)).1
  obtain ⟨w1, hw1, hw2, hw3⟩ := Γ.base
  have hGw : G.st w := by rw [← hΓ.1]; exact Γ.stab w hr.fr
  have hmx1 := hmx w1 (by rw [← hΓ.1]; exact hw1)
  have hb0m : Γ.own0 b0 ∨ Γ.w0.heap.size ≤ b0 := hr.mineL (fun j e => by rw [e] at l0; cases l0) o0
  have hmxb : mx ≠ b0 := fun e => by
    rcases hb0m with h1 | h1
    · have := hw2 b0 h1; omega
    · omega
  obtain ⟨Ds, hd1, hd2, hd3⟩ := hr.defers
  -- the closure
  obtain ⟨lb, hlb⟩ : ∃ lb : Array Value, lb = #[.pointer (some ⟨b1, 0, none⟩), .pointer (some ⟨b0, 0, none⟩), .pointer (some ⟨b2, 0, none⟩)] := ⟨_, rfl⟩
  have hfv : a.eval (.tmp g) = .func (.func gf) #[] lb := by
    have h1 : VRel w M (fun κ => Ow κ 0) (.fn gf [.ptr κ1 0, .ptr κ0 0, .ptr κ2 0]) (a.tmps.getD g undef) := hr.slot g _ hg
    show a.tmps.getD g undef = _
    generalize a.tmps.getD g undef = q at h1
    cases h1 with
    | fn _ _ cs hsz hcs =>
      congr 1
      rw [hlb]
      have at_ : ∀ (i : Nat) (κ : Loc) (b : Nat), i < 3 → ([AV.ptr κ1 0, .ptr κ0 0, .ptr κ2 0])[i]? = some (.ptr κ 0) → Ow κ 0 = some b → cs[i]? = some (.pointer (some ⟨b, 0, none⟩)) := by
        intro i κ b hi hx ho
        have hlt : i < cs.size := by rw [hsz]; exact hi
        have := hcs i _ cs[i] hx (by simp [hlt])
        rw [Array.getElem?_eq_getElem hlt]
        congr 1
        generalize cs[i] = q at this
        cases this with | ptr _ _ b' _ hb => rw [ho] at hb; obtain rfl := Option.some.inj hb; rfl
      apply Array.ext_getElem?
      intro i
      match i with
      | 0 => rw [at_ 0 κ1 b1 (by omega) rfl o1]; rfl
      | 1 => rw [at_ 1 κ0 b0 (by omega) rfl o0]; rfl
      | 2 => rw [at_ 2 κ2 b2 (by omega) rfl o2]; rfl
      | i + 3 => rw [Array.getElem?_eq_none (by rw [hsz]; simp), Array.getElem?_eq_none (by simp)]
  -- what is never touched in a round
  obtain ⟨nl, hnl⟩ : ∃ nl : Nat, nl = (match Γ.rd with | none => 2 | some _ => 1) := ⟨_, rfl⟩
  let Bx : Nat → Prop := fun b => b = b0 ∨ b = b1 ∨ b = b2 ∨ b ∈ Ds ∨ (w.heap.size ≤ b ∧ b < w.heap.size + nl)
  have hDlt : ∀ D, D ∈ Ds → D < w.heap.size ∧ D ≠ b0 := fun D hD => ⟨(Array.getElem?_eq_some_iff.1 (hd3 D hD).2).1, fun e => by
    have := (hd3 D hD).2
    rw [e, c0] at this; cases this⟩
  have notB : ∀ l i b, Ow l i = some b → (l ≠ κ0 ∧ l ≠ κ1 ∧ l ≠ κ2) → (∃ cs ty, w.heap[b]? = some (.cells cs ty (0, 0))) → ¬ Bx b := by
    rintro l i b e ⟨h1, h2, h3⟩ ⟨cs, ty, hc⟩ hB
    rcases hB with hB | hB | hB | hB | hB
    · exact h1 (hr.inj l i κ0 0 b e (hB ▸ o0)).1
    · exact h2 (hr.inj l i κ1 0 b e (hB ▸ o1)).1
    · exact h3 (hr.inj l i κ2 0 b e (hB ▸ o2)).1
    · have := (hd3 b hB).2
      rw [hc] at this; cases this
    · have := hr.lt l i b e; omega
  have hrS := (hr.sub hs).reds
  have inS : ∀ κ, lk (S 0) κ ≠ none → κ ≠ κ0 ∧ κ ≠ κ1 ∧ κ ≠ κ2 := fun κ h => ⟨fun e => h (e ▸ hno.1), fun e => h (e ▸ hno.2.1), fun e => h (e ▸ hno.2.2)⟩
  have blkCells : ∀ κ b, lk (S 0) κ ≠ none → κ.isBlk = true → Ow κ 0 = some b → ∃ cs ty, w.heap[b]? = some (.cells cs ty (0, 0)) := fun κ b hne hk e => by
    obtain ⟨v, hv⟩ := Option.ne_none_iff_exists'.1 hne
    obtain ⟨ty, cells, b', cs, _, ho, hh, _⟩ := hrS.blk κ v hk hv
    rw [e] at ho; obtain rfl := Option.some.inj ho
    exact ⟨cs, ty, hh⟩
  have hpins : ∀ κ, Γ.pin κ ≠ none → κ ∈ pins := fun κ h => List.contains_iff_mem.1 (List.all_eq_true.1 hGp κ (hΓ.2 κ h))
  classical
  have hfil := hrS.filt (pins := pins) (fun l b => l.notE && !decide (Bx b)) (hok 0) hpins
    (fun κ b hk e => by
      obtain ⟨h1, ⟨ty, cells, h2⟩, h3⟩ := pinsB_at (hpb 0) hk
      have hne : lk (S 0) κ ≠ none := by rw [h2]; simp
      have h4 : κ.notE = true := by cases κ with | e j => exact absurd rfl (h3 j) | _ => rfl
      have h5 := notB κ 0 b e (inS κ hne) (blkCells κ b hne h1 e)
      simp [h4, h5])
    (fun κ b hne hk e => by
      obtain ⟨v, hv⟩ := Option.ne_none_iff_exists'.1 hne
      have h4 : κ.notE = true := by cases κ with | e j => exact absurd rfl ((okS_lk (hok 0) hv).2.2 j) | _ => rfl
      have h5 := notB κ 0 b e (inS κ hne) (blkCells κ b hne hk e)
      simp [h4, h5])
    (fun κ i b hne hk e hc => by
      obtain ⟨v, hv⟩ := Option.ne_none_iff_exists'.1 hne
      have h4 : κ.notE = true := by cases κ with | e j => exact absurd rfl ((okS_lk (hok 0) hv).2.2 j) | _ => rfl
      have h5 := notB κ (i + 1) b e (inS κ hne) hc
      simp [h4, h5])
  have hI0 : RInv P Γ n (S 0) a Bx b0 Ds w M (fun l i => (Ow l i).filter (fun b => l.notE && !decide (Bx b))) := {
    rel := hfil
    ow := fun l i b e => by
      have h1 := (Option.filter_eq_some_iff.1 e).2
      simp only [Bool.and_eq_true, Bool.not_eq_true', decide_eq_false_iff_not] at h1
      exact ⟨fun j ej => by subst ej; exact absurd h1.1 (by simp [Loc.notE]), h1.2⟩
    mb := hM0
    ds := fun D hD => (hd3 D hD).2 }
  have hBb : Bx b0 := .inl rfl
  have hBD : ∀ D, D ∈ Ds → Bx D := fun D hD => .inr (.inr (.inr (.inl hD)))
  let I : Nat → World → Prop := fun k W => inv k ∧ ∃ M Ow, RInv P Γ n (S k) a Bx b0 Ds W M Ow
  let Ix : Code → Nat → World → Prop := fun c _ W => ∃ e mX, codeOf e c ∧ Q e mX ∧ ∃ M Ow, RInv P Γ n mX a Bx b0 Ds W M Ow
  have hI : Hold b0 w.heap.size I := fun k W W' ⟨h1, M', Ow', h2⟩ hh => ⟨h1, M', Ow', h2.harm hh hr.fr.size hb0m hBb hDlt⟩
  have hIx : ∀ c, Hold b0 w.heap.size (Ix c) := fun c k W W' ⟨e, mX, h1, h2, M', Ow', h3⟩ hh => ⟨e, mX, h1, h2, M', Ow', h3.harm hh hr.fr.size hb0m hBb hDlt⟩
  have hseq := hit w b0 b1 b2 hGw n1 n2 hmxb c0 c1 c2
  have hSlt : ∀ r, (r = b0 ∨ r = b1 ∨ r = b2 ∨ r = mx) → r < w.heap.size := by
    rintro r (rfl | rfl | rfl | rfl)
    · exact (Array.getElem?_eq_some_iff.1 c0).1
    · exact (Array.getElem?_eq_some_iff.1 c1).1
    · exact (Array.getElem?_eq_some_iff.1 c2).1
    · have := hr.fr.size; omega
  have hasg : ∀ (l k : Nat) (v : Value) (W : World) (K : Act → World → Prop), K (({ tmps := a.tmps.setIfInBounds t v, defers := [] } : Act).put (some t') v) W →
      assign.wpIn (FW (some l)) k P (Exit.then K fun _ _ _ => False) { tmps := (#[t].zip #[v]).foldl (fun t (p, v) => t.setIfInBounds p v) a.tmps, defers := [] } W := by
    intro l k v W K hK
    have e : (#[t].zip #[v]).foldl (fun t (p, v) => t.setIfInBounds p v) a.tmps = a.tmps.setIfInBounds t v := by simp
    rw [e]
    refine hassign l k _ W K ?_
    have h1 : (a.tmps.setIfInBounds t v).getD t undef = v := by
      have : t < a.tmps.size := by rw [hr.size]; exact htn
      simp [Array.getD_eq_getD_getElem?, this]
    rw [h1]; exact hK
  have hbody : ∀ (l k : Nat) (v : Value) (W : World), I k W → (xs.map Value.string)[k]? = some v → Bx l → (∀ b, Bx b → b < W.heap.size) → (∃ r, W.heap[l]? = some (.loop r)) → ∀ T : Nat → Prop, (∀ r, T r → Bx r ∨ r = mx) →
      body.wpIn (FW (some l)) 0 P (cutPost T I Ix k W) (({ tmps := a.tmps.setIfInBounds t v, defers := [] } : Act).put (some t') v) W := by
    rintro l k v W ⟨hinv, M', Ow', hRI⟩ hv hBl hBW hlp T hT
    obtain ⟨p, hp, rfl⟩ : ∃ p, xs[k]? = some p ∧ Value.string p = v := by
      rw [List.getElem?_map] at hv
      exact Option.map_eq_some_iff.1 hv
    have h1 := hRI.round (S0 := S 0) (pins := pins) (t := t) (t' := t') (p := .string p) hΓ.1 hlp hBl hBW rfl htn htn' hBD hBb hpins (hok k) (hslots k) (hpb k) (round k p hp hinv)
    refine Go.wpIn_mono h1 ?_
    rintro e a' W' ⟨m', hq, hK, hout⟩
    have hK' : Keeps T W W' := hK.mono fun r hr => by
      rcases hT r hr with h2 | rfl
      · exact .inl h2
      · exact .inr ⟨w1, hw1, hmx1, hw2, hw3⟩
    cases e with
    | normal =>
      obtain ⟨h2, h3⟩ := hq
      exact ⟨hK', h2, hout _ h3.out (hok _)⟩
    | ret => obtain ⟨mX, h2, h3, h4⟩ := hq; exact ⟨hK', .ret, mX, .inl ⟨rfl, rfl⟩, h4, hout _ h2.out h3⟩
    | exit id => obtain ⟨mX, h2, h3, h4⟩ := hq; exact ⟨hK', .exit id, mX, .inr (.inl ⟨id, rfl, rfl⟩), h4, hout _ h2.out h3⟩
    | goto q => obtain ⟨mX, h2, h3, h4⟩ := hq; exact ⟨hK', .goto q, mX, .inr (.inr ⟨q, rfl, rfl⟩), h4, hout _ h2.out h3⟩
    | panic c => exact hq.elim
    | outgrown => exact hq.elim
  have hend : ∀ (e : Exit) (c : Code) (a' : Act) (W : World) (F : Fence) (k : Nat), codeOf e c → (∃ m', Q e m' ∧ RelX P Γ n m' a' W) → c.wpIn F k P (fun e a' w' => ∃ m', Q e m' ∧ RelX P Γ n m' a' w') a' W := by
    rintro e c a' W F k (⟨rfl, rfl⟩ | ⟨id, rfl, rfl⟩ | ⟨q, rfl, rfl⟩) h
    · exact wpIn_ret h
    · exact wpIn_exit h
    · exact wpIn_goto h
  cases hrd : Γ.rd with
  | none =>
    rw [hrd] at hnl
    have hnl : nl = 2 := hnl
    refine FW.any (k := 9) (range_cuts (F := FW none) (n := 9) rfl (by omega) (gf := gf) (lb := lb) hfv trivial eg (S := fun r => r = b0 ∨ r = b1 ∨ r = b2 ∨ r = mx) (B := b0) hSlt (hSlt b0 (.inl rfl)) (by rw [hlb]; exact hseq) rfl I Ix hI hIx ⟨h0, M, _, hI0⟩ (fun v => ({ tmps := a.tmps.setIfInBounds t v, defers := [] } : Act).put (some t') v) ?_ ?_ ?_ ?_)
    · intro l v W K hK
      exact hasg _ _ v W K hK
    · intro l k v W hIk hv hsz hl hlp hmk
      subst hl
      refine FW.any (k := 0) (hbody _ k v W hIk hv (.inr (.inr (.inr (.inr ⟨by omega, by omega⟩)))) ?_ hlp _ ?_)
      · rintro b (rfl | rfl | rfl | hb | hb)
        · have := hSlt b (.inl rfl); omega
        · have := hSlt b (.inr (.inl rfl)); omega
        · have := hSlt b (.inr (.inr (.inl rfl))); omega
        · have := (hDlt b hb).1; omega
        · omega
      · rintro r ((h1 | h1 | h1 | h1) | h1 | h1)
        · exact .inl (.inl h1)
        · exact .inl (.inr (.inl h1))
        · exact .inl (.inr (.inr (.inl h1)))
        · exact .inr h1
        · exact .inl (.inr (.inr (.inr (.inr ⟨by omega, by omega⟩))))
        · exact .inl (.inr (.inr (.inr (.inr ⟨by omega, by omega⟩))))
    · rintro D W ⟨h1, M', Ow', h2⟩ hK hD
      rw [List.length_map] at h1 h2
      refine ⟨_, done h1, M', Ow', h2.rel.unds _ ⟨D :: Ds, by rw [hd1]; rfl, List.nodup_cons.2 ⟨fun hm => by have := (hDlt D hm).1; omega, hd2⟩, fun D' hD' => ?_⟩⟩
      rcases List.mem_cons.1 hD' with rfl | hD'
      · exact ⟨Nat.le_trans hr.fr.size hD, hK⟩
      · exact ⟨(hd3 D' hD').1, h2.ds D' hD'⟩
    · rintro D c k W ⟨e, mX, h1, h3, M', Ow', h2⟩ hK hD
      refine hend e c _ W _ _ h1 ⟨mX, h3, M', Ow', h2.rel.unds _ ⟨D :: Ds, by rw [hd1]; rfl, List.nodup_cons.2 ⟨fun hm => by have := (hDlt D hm).1; omega, hd2⟩, fun D' hD' => ?_⟩⟩
      rcases List.mem_cons.1 hD' with rfl | hD'
      · exact ⟨Nat.le_trans hr.fr.size hD, hK⟩
      · exact ⟨(hd3 D' hD').1, h2.ds D' hD'⟩
  | some lo =>
    rw [hrd] at hnl
    have hnl : nl = 1 := hnl
    obtain ⟨⟨r0, hr0⟩, hno0⟩ := Γ.rl lo hrd
    have hr0' : w.heap[lo]? = some (.loop r0) := (hr.fr.block lo (Array.getElem?_eq_some_iff.1 hr0).1 hno0).trans hr0
    refine FW.any (k := 9) (range_cutsN (F := FW (some lo)) (n := 9) (l₀ := lo) (r₀ := r0) rfl hr0' (by omega) (gf := gf) (lb := lb) hfv trivial eg (S := fun r => r = b0 ∨ r = b1 ∨ r = b2 ∨ r = mx) (B := b0) hSlt (hSlt b0 (.inl rfl)) (by rw [hlb]; exact hseq.inRound lo) rfl I Ix hI hIx ⟨h0, M, _, hI0⟩ (fun v => ({ tmps := a.tmps.setIfInBounds t v, defers := [] } : Act).put (some t') v) ?_ ?_ ?_ ?_)
    · intro l v W K hK
      exact hasg _ _ v W K hK
    · intro l k v W hIk hv hsz hl hlp
      subst hl
      refine FW.any (k := 0) (hbody _ k v W hIk hv (.inr (.inr (.inr (.inr ⟨by omega, by omega⟩)))) ?_ hlp _ ?_)
      · rintro b (rfl | rfl | rfl | hb | hb)
        · have := hSlt b (.inl rfl); omega
        · have := hSlt b (.inr (.inl rfl)); omega
        · have := hSlt b (.inr (.inr (.inl rfl))); omega
        · have := (hDlt b hb).1; omega
        · omega
      · rintro r ((h1 | h1 | h1 | h1) | h1)
        · exact .inl (.inl h1)
        · exact .inl (.inr (.inl h1))
        · exact .inl (.inr (.inr (.inl h1)))
        · exact .inr h1
        · exact .inl (.inr (.inr (.inr (.inr ⟨by omega, by omega⟩))))
    · rintro W ⟨h1, M', Ow', h2⟩
      rw [List.length_map] at h1 h2
      exact ⟨_, done h1, M', Ow', h2.rel.unds a.defers ⟨Ds, hd1, hd2, fun D' hD' => ⟨(hd3 D' hD').1, h2.ds D' hD'⟩⟩⟩
    · rintro c k W ⟨e, mX, h1, h3, M', Ow', h2⟩
      exact hend e c _ W _ _ h1 ⟨mX, h3, M', Ow', h2.rel.unds a.defers ⟨Ds, hd1, hd2, fun D' hD' => ⟨(hd3 D' hD').1, h2.ds D' hD'⟩⟩⟩
end
end Go.Lg

set_option linter.unusedVariables false
set_option linter.unusedSimpArgs false
namespace Go.Lg
open Go Go.RowKit
section
variable {P : Program} {G : Env} {n : Nat} {tab : Tab} {m : Store}
theorem Sq.spec {ops l : List Oper} {o : Oper} {r : R} {K : Store → Prop} (hg : gOk m ops o.guard = true) (h : OSpec P n o m r) (hf : (freshB r.1 m && pinB r.1 G.pins) = true) (k : Sq P G n ops l (r.2.2 ++ m) K) : Sq P G n ops (o :: l) m K := by
  rw [Bool.and_eq_true] at hf
  refine Sq.step (fr := r.1) ?_ (pinB_eq hf.2) k
  rintro Γ a w hpn ⟨M, Ow, hr⟩
  rw [if_pos (wanted_of hg hr)]
  exact h.act m h.here (freshB_eq hf.1) Γ a w hpn ⟨M, Ow, hr⟩
theorem Rel.putsl {Γ : Ctx} {M : Nat → Nat → Prop} {Ow : Loc → Nat → Option Nat} {a : Act} {w w' : World} (hr : Rel P Γ M Ow n m a w) {d : Nat} (hd : d < n) (hpn : Γ.pin (.l d) = none) (hf : refsM (.l d) m = false) {e : TypeId} {cells : List AV} {carr : Array Value} {len cap : Nat}
    (hbel : Below w.heap.size w w') (hnew : w'.heap[w.heap.size]? = some (.cells carr e (0, 0))) (hs : carr.size = cells.length) (h1 : ∀ (k : Nat) (u : Value), carr[k]? = some u → u.oneCell' = true)
    (hc : ∀ (i : Nat) (y : AV) (v : Value), cells[i]? = some y → carr[i]? = some v → SRel P w M Ow y v none) (hrc : refsL (.l d) cells = false) (hlc : len ≤ cap) :
    RelX P Γ n ((.s d, .sl (.l d) len cap) :: (.l d, .blk e cells) :: m) (a.put (some d) (.slice (some ⟨w.heap.size, 0, none⟩) len cap)) w' := by
  have h1' := hr.ext (w' := w') (M' := M) hbel (fun _ _ h => h) (fun _ _ h => .inl h) (fun b o hm => Nat.lt_of_lt_of_le (hr.mlt b o hm) hbel.size)
  have h2 := h1'.addblk (κ := .l d) rfl hpn hf (b := w.heap.size) hnew (fun l i e => absurd (hr.lt l i _ e) (Nat.lt_irrefl _)) hr.fr.size (fun o hm => absurd (hr.mlt _ _ hm) (Nat.lt_irrefl _)) hs h1 (fun i y v hy hv =>
    (hc i y v hy hv).mono (fun b o hm => ⟨hm, hbel.cell (p := ⟨b, o, none⟩) (hr.mlt b o hm)⟩) (fun κ b _ _ e => e) (fun b e => by cases e)) hrc
  exact ⟨_, _, h2.put hd (.sl (.l d) len cap w.heap.size rfl (by simp) hlc)⟩
def evMake (tab : Tab) (n : Nat) (ops : List Oper) (o : Oper) (m : Store) : Option (TypeId × AV × Nat × Int × Int × Nat) := match o.op, o.dst, gOk m ops o.guard with
  | .makeSlice t l c, some d, true => match Nat.blt d n, tlk tab t with
    | true, some ⟨_, _, .slice e, _⟩ => match tlk tab e, opV m l, opV m c with
      | some ⟨1, bytes, _, [z]⟩, some (.tr (.sc (.int _ j))), some (.tr (.sc (.int _ j'))) => some (e, z, bytes, j, j', d)
      | _, _, _ => none
    | _, _ => none
  | _, _, _ => none
theorem Sq.make {ops l : List Oper} {o : Oper} {e : TypeId} {z : AV} {bytes d : Nat} {j j' : Int} {K : Store → Prop} (hT : TabOk P tab) (h : evMake tab n ops o m = some (e, z, bytes, j, j', d)) (hj : j = j') (h0 : 0 ≤ j) (hb : (bytes : Int) * j ≤ 281474976710656) (h63 : j ≤ 9223372036854775807)
    (hf : (freshB [.l d] m && pinB [.l d] G.pins) = true) (k : Sq P G n ops l ((.s d, .sl (.l d) j.toNat j.toNat) :: (.l d, .blk e (List.replicate j.toNat z)) :: m) K) : Sq P G n ops (o :: l) m K := by
  subst hj
  obtain ⟨dst, op, type, pos, after, guard⟩ := o
  unfold evMake at h
  simp only at h
  split at h
  · rename_i t ol oc d' hgd
    split at h
    · rename_i e' _ hlt ht
      split at h
      · rename_i bytes' kind z' kl jl kc jc he hvl hvc
        simp only [Option.some.injEq, Prod.mk.injEq] at h
        obtain ⟨rfl, rfl, rfl, rfl, rfl, rfl⟩ := h
        have hd : d' < n := Nat.lt_of_succ_le (Nat.le_of_ble_eq_true hlt)
        rw [Bool.and_eq_true] at hf
        refine Sq.step (fr := [.l d']) ?_ (pinB_eq hf.2) k
        rintro Γ a w hpn ⟨M, Ow, hr⟩
        rw [if_pos (wanted_of hgd hr)]
        refine OAct.ofp (fr := [.l d']) (m := m) (fun Γ M Ow a w hpn hr => ?_) Γ a w hpn ⟨M, Ow, hr⟩
        obtain ⟨ie, hie, hisz, hby, _, ho, zv, hz, hzs⟩ := hT.info he
        obtain ⟨z1, z2, z3, z4⟩ := zsOk_all hzs ho
        obtain ⟨q1, hq1⟩ := opV_ok hvl hr
        obtain ⟨q2, hq2⟩ := opV_ok hvc hr
        have e1 := (sc_eval (Γ := Γ) hq1).1
        have e2 := (sc_eval (Γ := Γ) hq2).1
        have hu := hT.slice ht rfl
        have hisz : ie.size = 1 := hisz
        have hby : ie.bytes = bytes' := hby
        have hrun := run_make (P := P) w t e' ie zv hu hie hz kl kc jc jc h0 (Int.le_refl _) (by rw [hby]; exact hb) h63
        refine ⟨_, _, by simp only [execOp, e1, e2]; rw [Sem.run_bind, hrun]; rfl, ?_⟩
        obtain ⟨zc, hzc⟩ : ∃ zc, zv.cells = #[zc] := by
          have : zv.cells.size = 1 := by have := z1; simpa using this.symm
          refine ⟨zv.cells[0], ?_⟩
          apply Array.ext
          · simp [this]
          · intro i h1 h2
            obtain rfl : i = 0 := by omega
            rfl
        have hmk : (madeCells zv.cells (jc.toNat * ie.size)) = (List.replicate jc.toNat zc).toArray := by
          rw [hzc, hisz, Nat.mul_one, ← toList_madeCells_one]
        rw [hmk]
        have at_ : ∀ {i : Nat} {u : Value}, (List.replicate jc.toNat zc).toArray[i]? = some u → u = zc := by
          intro i u hu
          rw [List.getElem?_toArray] at hu
          exact List.eq_of_mem_replicate (List.mem_of_getElem? hu)
        refine hr.putsl hd (hpn _ (by simp)) (freshB_eq hf.1 _ (by simp)) (below_alloc w _) (alloc_at w _) (by simp) ?_ ?_ ?_ (Nat.le_refl _)
        · intro i u hu
          rw [at_ hu]
          exact z3 0 zc (by rw [hzc]; rfl)
        · intro i y u hy hu
          rw [at_ hu, List.eq_of_mem_replicate (List.mem_of_getElem? hy)]
          exact z4 w M Ow 0 z' zc rfl (by rw [hzc]; rfl)
        · have h1 := z2 (.l d')
          simp only [refsL, Bool.or_false] at h1
          cases hh : refsL (.l d') (List.replicate jc.toNat z') with
          | false => rfl
          | true =>
            exfalso
            have : ∀ k, refsL (.l d') (List.replicate k z') = false := by
              intro k
              induction k with
              | zero => rfl
              | succ k ih => simp only [List.replicate_succ, refsL, h1, ih, Bool.or_false]
            rw [this] at hh; cases hh
      · cases h
    · cases h
  · cases h
def evLenS (tab : Tab) (n : Nat) (ops : List Oper) (o : Oper) (m : Store) : Option (Nat × Nat) := match o.op, o.dst, gOk m ops o.guard with
  | .call ⟨.builtin .len, ⟨[x]⟩, ⟨[t]⟩⟩, some d, true => match Nat.blt d n, tlk tab t, opV m x with
    | true, some ⟨_, _, .slice _, _⟩, some (.sl _ len _) => some (len, d)
    | _, _, _ => none
  | _, _, _ => none
theorem sl_eval {x : Operand} {κ : Loc} {len cap : Nat} {w : World} {M : Nat → Nat → Prop} {Ow : Loc → Nat → Option Nat} {a : Act} {o : Option Nat} (h : SRel P w M Ow (.sl κ len cap) (a.eval x) o) :
    ∃ b, κ.isBlk = true ∧ Ow κ 0 = some b ∧ len ≤ cap ∧ a.eval x = .slice (some ⟨b, 0, none⟩) len cap := by
  have h : VRel w M (fun κ => Ow κ 0) (.sl κ len cap) (a.eval x) := h
  generalize a.eval x = q at h
  cases h with | sl _ _ _ b hk hb hc => exact ⟨b, hk, hb, hc, rfl⟩
theorem len_run {o : Oper} {t et : TypeId} {x : Operand} {a : Act} {ad : Option Addr} {len cap : Nat} (hu : P.underlying t = some (.slice et)) (hop : ∀ (ρ : Operand → Value), execOp ρ o = (do pure (.value (← Builtin.len_ #[t] o.type #[ρ x])))) (e : a.eval x = .slice ad len cap) (w : World) :
    (execOp a.eval o).run P w = .ok (.value (.int .i64 (len : Int))) w := by
  rw [hop, e]; simp [Builtin.len_, run_underlying hu, goInt]
theorem Sq.lenS {ops l : List Oper} {o : Oper} {len d : Nat} {K : Store → Prop} (hT : TabOk P tab) (h : evLenS tab n ops o m = some (len, d)) (k : Sq P G n ops l ((.s d, .tr (.sc (.int .i64 (len : Int)))) :: m) K) : Sq P G n ops (o :: l) m K := by
  obtain ⟨dst, op, type, pos, after, guard⟩ := o
  unfold evLenS at h
  simp only at h
  split at h
  · rename_i x t d' hgd
    split at h
    · rename_i e _ κ len' cap hlt ht hv
      simp only [Option.some.injEq, Prod.mk.injEq] at h
      obtain ⟨rfl, rfl⟩ := h
      refine Sq.do hgd (fun Γ M Ow a w hr => ?_) k
      obtain ⟨q, hq⟩ := opV_ok hv hr
      obtain ⟨b, _, _, _, e⟩ := sl_eval hq
      have hu := hT.slice ht rfl
      exact ⟨.int .i64 (len' : Int), w, len_run hu (fun ρ => by simp [execOp, resolve, invoke, builtin]) e w, M, Ow, hr.put (Nat.lt_of_succ_le (Nat.le_of_ble_eq_true hlt)) (.tr _ _ (.sc _ rfl))⟩
    · cases h
  · cases h
def evIdxS (tab : Tab) (n : Nat) (ops : List Oper) (o : Oper) (m : Store) : Option (Loc × Nat × Nat × Int × Nat) := match o.op, o.dst, gOk m ops o.guard with
  | .indexAddr t x i, some d, true => match Nat.blt d n, tlk tab t with
    | true, some ⟨_, _, .slice e, _⟩ => match tlk tab e, opV m x, opV m i with
      | some ⟨es, _, _, _⟩, some (.sl κ len _), some (.tr (.sc (.int _ j))) => some (κ, len, es, j, d)
      | _, _, _ => none
    | _, _ => none
  | _, _, _ => none
theorem Sq.indexS {ops l : List Oper} {o : Oper} {κ : Loc} {len es d : Nat} {j : Int} {K : Store → Prop} (hT : TabOk P tab) (h : evIdxS tab n ops o m = some (κ, len, es, j, d)) (h0 : 0 ≤ j) (hj : j < len)
    (k : Sq P G n ops l ((.s d, .ptr κ (j.toNat * es)) :: m) K) : Sq P G n ops (o :: l) m K := by
  obtain ⟨dst, op, type, pos, after, guard⟩ := o
  unfold evIdxS at h
  simp only at h
  split at h
  · rename_i t ox oi d' hgd
    split at h
    · rename_i e _ hlt ht
      split at h
      · rename_i es' _ _ _ κ' len' cap ik j' he hv hi
        simp only [Option.some.injEq, Prod.mk.injEq] at h
        obtain ⟨rfl, rfl, rfl, rfl, rfl⟩ := h
        refine Sq.do hgd (fun Γ M Ow a w hr => ?_) k
        obtain ⟨q1, hq1⟩ := opV_ok hv hr
        obtain ⟨q2, hq2⟩ := opV_ok hi hr
        have e2 := (sc_eval (Γ := Γ) hq2).1
        obtain ⟨b, hk, hb, _, e1⟩ := sl_eval hq1
        obtain ⟨ie, hie, hsz, _⟩ := hT.info he
        have hsz : ie.size = es' := hsz
        have hu := hT.slice ht rfl
        have hin : 0 ≤ j' ∧ j' < (len' : Int) := ⟨h0, hj⟩
        refine ⟨.pointer (some ⟨b, j'.toNat * es', none⟩), w, ?_, M, Ow, hr.put (Nat.lt_of_succ_le (Nat.le_of_ble_eq_true hlt)) (.ptr κ' _ b hk hb)⟩
        simp [execOp, e1, e2, Instr.indexAt, asIntOf, run_underlying hu, hin, sizeOf, typeInfo, hie, hsz, add_lit]
      · cases h
    · cases h
  · cases h
def evNilC (n : Nat) (ops : List Oper) (o : Oper) (m : Store) : Option (Loc × Nat × Nat) := match o.op, o.dst, gOk m ops o.guard with
  | .nilCheck x, some d, true => match Nat.blt d n, opV m x with
    | true, some (.ptr κ off) => some (κ, off, d)
    | _, _ => none
  | _, _, _ => none
theorem Sq.nilC {ops l : List Oper} {o : Oper} {κ : Loc} {off d : Nat} {K : Store → Prop} (h : evNilC n ops o m = some (κ, off, d)) (k : Sq P G n ops l ((.s d, .ptr κ off) :: m) K) : Sq P G n ops (o :: l) m K := by
  obtain ⟨dst, op, type, pos, after, guard⟩ := o
  unfold evNilC at h
  simp only at h
  split at h
  · rename_i x d' hgd
    split at h
    · rename_i κ' off' hlt hv
      simp only [Option.some.injEq, Prod.mk.injEq] at h
      obtain ⟨rfl, rfl, rfl⟩ := h
      refine Sq.do hgd (fun Γ M Ow a w hr => ?_) k
      obtain ⟨q1, hq1⟩ := opV_ok hv hr
      obtain ⟨b, hk, hb, e1⟩ := opK_ptr (v := .unk) (Γ := Γ) (rs := []) hq1
      exact ⟨.pointer (some ⟨b, off', none⟩), w, by simp [execOp, e1, Instr.sureAddr], M, Ow, hr.put (Nat.lt_of_succ_le (Nat.le_of_ble_eq_true hlt)) (.ptr κ' _ b hk hb)⟩
    · cases h
  · cases h
def evLoadS (tab : Tab) (n : Nat) (ops : List Oper) (o : Oper) (m : Store) : Option (List AV × Nat × Nat) := match o.op, o.dst, gOk m ops o.guard with
  | .load t (.tmp p), some d, true => match Nat.blt d n, tlk tab t, lk m (.s p) with
    | true, some ⟨_, _, kind, _⟩, some (.ptr κ off) => match kind.agg, lk m κ with
      | false, some (.blk _ cells) => some (cells, off, d)
      | _, _ => none
    | _, _, _ => none
  | _, _, _ => none
theorem Sq.loadS {ops l : List Oper} {o : Oper} {cells : List AV} {off d : Nat} {v : AV} {K : Store → Prop} (hT : TabOk P tab) (h : evLoadS tab n ops o m = some (cells, off, d)) (hv : cells[off]? = some v) (k : Sq P G n ops l ((.s d, v.deg) :: m) K) : Sq P G n ops (o :: l) m K := by
  obtain ⟨dst, op, type, pos, after, guard⟩ := o
  unfold evLoadS at h
  simp only at h
  split at h
  · rename_i t p d' hgd
    split at h
    · rename_i kind _ κ off' hlt ht hp
      split at h
      · rename_i ty cells' hagg hκ
        simp only [Option.some.injEq, Prod.mk.injEq] at h
        obtain ⟨rfl, rfl, rfl⟩ := h
        refine Sq.do hgd (fun Γ M Ow a w hr => ?_) k
        obtain ⟨b, hk, hb, e1⟩ := opK_ptr (x := .tmp p) (a := a) (o := Ow (.s p) 0) (v := .unk) (Γ := Γ) (rs := []) (hr.slot p _ hp)
        obtain ⟨ty0, cells0, b0, cs, e0, ho, hh, hs', hn, h1, hcs⟩ := hr.blk κ _ hk hκ
        obtain ⟨rfl, rfl⟩ : ty = ty0 ∧ cells' = cells0 := by injection e0 with e1 e2; exact ⟨e1, e2⟩
        obtain rfl : b = b0 := by rw [hb] at ho; exact Option.some.inj ho
        have hlt2 : off' < cs.size := by
          rw [hs']
          rcases Nat.lt_or_ge off' cells'.length with h | h
          · exact h
          · rw [List.getElem?_eq_none h] at hv; cases hv
        have hcell : w.cell? ⟨b, off', none⟩ = some cs[off'] := by simp [World.cell?, hh, hlt2]
        have hrun := run_loadVar_one hT ht hagg hcell
        have := deg_vrel (hcs off' v cs[off'] hv (by simp [hlt2]))
        exact ⟨cs[off'], w, by simp only [execOp]; rw [e1, Sem.run_bind, hrun]; rfl, M, Ow, hr.put (Nat.lt_of_succ_le (Nat.le_of_ble_eq_true hlt)) this⟩
      · cases h
    · cases h
  · cases h
def oneAV : AV → Bool
  | .tr (.sc _) => true
  | .tr (.ls _) => true
  | .ptr _ _ => true
  | .sl _ _ _ => true
  | .fn _ _ => true
  | _ => false
theorem oneAV_ok {v : AV} (h : oneAV v = true) {w : World} {M : Nat → Nat → Prop} {bk : Loc → Option Nat} {cv : Value} (hv : VRel w M bk v cv) : cv.oneCell' = true ∧ v.isOwn = false := by
  unfold oneAV at h
  split at h
  · cases hv with | tr _ _ h => cases h with | sc _ h => exact ⟨h, rfl⟩
  · cases hv with | tr _ _ h => cases h <;> exact ⟨rfl, rfl⟩
  · cases hv; exact ⟨rfl, rfl⟩
  · cases hv; exact ⟨rfl, rfl⟩
  · cases hv; exact ⟨rfl, rfl⟩
  · cases h
def evStoreS (tab : Tab) (n : Nat) (ops : List Oper) (o : Oper) (m : Store) : Option (Loc × TypeId × List AV × Nat × AV) := match o.op, o.dst, gOk m ops o.guard with
  | .store t (.tmp p) x, none, true => match tlk tab t, lk m (.s p), opV m x with
    | some ⟨1, _, _, _⟩, some (.ptr κ off), some v => match κ.isL, lk m κ, oneAV v.deg with
      | true, some (.blk ty cells), true => some (κ, ty, cells, off, v.deg)
      | _, _, _ => none
    | _, _, _ => none
  | _, _, _ => none
theorem Sq.storeS {ops l : List Oper} {o : Oper} {κ : Loc} {ty : TypeId} {cells : List AV} {off : Nat} {v : AV} {K : Store → Prop} (hT : TabOk P tab) (h : evStoreS tab n ops o m = some (κ, ty, cells, off, v)) (hlt : off < cells.length)
    (k : Sq P G n ops l ((κ, .blk ty (cells.set off v)) :: m) K) : Sq P G n ops (o :: l) m K := by
  obtain ⟨dst, op, type, pos, after, guard⟩ := o
  unfold evStoreS at h
  simp only at h
  split at h
  · rename_i t p x hgd
    split at h
    · rename_i _ _ _ κ' off' v' ht hp hx
      split at h
      · rename_i ty' cells' hL hκ hone
        simp only [Option.some.injEq, Prod.mk.injEq] at h
        obtain ⟨rfl, rfl, rfl, rfl, rfl⟩ := h
        refine Sq.step (m' := (κ', .blk ty' (cells'.set off' v'.deg)) :: m) (fr := []) ?_ (fun κ h => by cases h) k
        rintro Γ a w hpn ⟨M, Ow, hr⟩
        rw [if_pos (wanted_of hgd hr)]
        refine OAct.of_skip (fr := []) (fun Γ M Ow a w hr => ?_) Γ a w hpn ⟨M, Ow, hr⟩
        obtain ⟨b, hk, hb, e1⟩ := opK_ptr (x := .tmp p) (a := a) (o := Ow (.s p) 0) (v := .unk) (Γ := Γ) (rs := []) (hr.slot p _ hp)
        obtain ⟨ty0, cells0, b0, cs, e0, ho, hh, hs', hn, h1, hcs⟩ := hr.blk κ' _ hk hκ
        obtain ⟨rfl, rfl⟩ : ty' = ty0 ∧ cells' = cells0 := by injection e0 with e1 e2; exact ⟨e1, e2⟩
        obtain rfl : b = b0 := by rw [hb] at ho; exact Option.some.inj ho
        obtain ⟨q, hq⟩ := opV_ok hx hr
        have hv := deg_vrel hq
        obtain ⟨o1, o2⟩ := oneAV_ok hone hv
        have hcl := one_cells o1
        obtain ⟨c1, c2, c3⟩ := one_rel hv o1
        have hst := run_store_at (off := off') hT ht hh (v := a.eval x) (by rw [hcl]; rfl) (by simp; omega) c2
        refine ⟨_, by simp only [execOp]; rw [e1, Sem.run_bind, hst]; rfl, ?_⟩
        have hwr := hr.write (vs := [v'.deg]) hL hκ (off := off') hb hh hs' (by simp; omega) c1 c2 (fun i y u hy hu => srel_of (c3 i y u hy hu) _)
        have e : cells'.take off' ++ [v'.deg] ++ cells'.drop (off' + [v'.deg].length) = cells'.set off' v'.deg := by
          rw [List.set_eq_take_append_cons_drop, if_pos hlt]; simp
        rw [e] at hwr
        exact ⟨M, Ow, hwr⟩
      · cases h
    · cases h
  · cases h
def delL (κ : Loc) : Store → Store
  | [] => []
  | (l, v) :: r => match l.eqb κ with
    | true => delL κ r
    | false => (l, v) :: delL κ r
theorem lk_del {κ : Loc} : ∀ {m : Store} {l : Loc}, lk (delL κ m) l = if l = κ then none else lk m l
  | [], l => by simp [delL, lk]
  | (k, v) :: r, l => by
    simp only [delL]
    cases h : k.eqb κ with
    | true =>
      obtain rfl := Loc.eqb_iff.1 h
      simp only
      rw [lk_del, lk_cons]
      split
      · rfl
      · rename_i h2; rw [if_neg (fun e => h2 e.symm)]
    | false =>
      simp only
      rw [lk_cons, lk_cons, lk_del]
      split
      · rename_i e; subst e
        rw [if_neg (fun e => by rw [e, Loc.eqb_self] at h; cases h)]
      · rfl
theorem Rel.addM {Γ : Ctx} {M : Nat → Nat → Prop} {Ow : Loc → Nat → Option Nat} {a : Act} {w : World} (h : Rel P Γ M Ow n m a w) {κ : Loc} {b N : Nat} (hL : κ.isL = true) (hb : Ow κ 0 = some b) (hno : lk m κ = none) :
    Rel P Γ (fun c o => M c o ∨ (c = b ∧ o < N)) Ow n m a w := by
  have sr : ∀ {l : Loc} {i : Nat} {x : AV} {v : Value}, (l ≠ κ ∨ i ≠ 0) → SRel P w M Ow x v (Ow l i) → SRel P w (fun c o => M c o ∨ (c = b ∧ o < N)) Ow x v (Ow l i) := fun hne hv =>
    hv.mono (fun c o hc => ⟨.inl hc, rfl⟩) (fun _ _ _ _ e => e) (fun c e => ⟨e, fun cs ty hc => hc, fun k hk => by
      rcases hk with hk | ⟨rfl, _⟩
      · exact hk
      · have := h.inj _ _ _ _ _ e hb
        rcases hne with h1 | h1
        · exact absurd this.1 h1
        · exact absurd this.2 h1⟩)
  exact {
    size := h.size
    defers := h.defers
    slot := fun t v hv => sr (.inl (fun e => by rw [← e] at hL; cases hL)) (h.slot t v hv)
    blk := fun κ' v hk hv => by
      obtain ⟨ty, cells, c, cs, rfl, ho, hc, hsz, hn, h1, h2⟩ := h.blk κ' v hk hv
      refine ⟨ty, cells, c, cs, rfl, ho, hc, hsz, ?_, h1, fun i y v hy hv => sr (.inr (Nat.succ_ne_zero i)) (h2 i y v hy hv)⟩
      rintro o (hM | ⟨rfl, _⟩)
      · exact hn o hM
      · have := (h.inj _ _ _ _ _ ho hb).1
        subst this; rw [hno] at hv; cases hv
    inj := h.inj
    lt := h.lt
    mine := h.mine
    mlt := fun c o hc => by
      rcases hc with hc | ⟨rfl, _⟩
      · exact h.mlt c o hc
      · exact h.lt _ _ _ hb
    mold := fun c o hc => .inl (h.mold c o hc)
    mnew := fun c o hc => by
      rcases hc with hc | ⟨rfl, _⟩
      · exact h.mnew c o hc
      · rcases h.mineL (fun j e => by rw [e] at hL; cases hL) hb with h1 | h1
        · exact .inr (.inl h1)
        · exact .inr (.inr h1)
    fr := h.fr
    pin := h.pin }
theorem RelX.freeze {Γ : Ctx} {a : Act} {w : World} (h : RelX P Γ n m a w) {s : Nat} {κ : Loc} {len cap es : Nat} {e : TypeId} {cells : List AV} {xs : List T} (hs : lk m (.s s) = some (.sl κ len cap)) (hb : lk m κ = some (.blk e cells)) (hL : κ.isL = true)
    (hlen : xs.length = len) (hsz : len * es ≤ cells.length) (hx : ∀ x, x ∈ xs → x.cells.length = es) (hc : ∀ (i j : Nat) (x y : T), xs[i]? = some x → x.cells[j]? = some y → ∃ v, cells[i * es + j]? = some v ∧ v.deg = .tr y) :
    RelX P Γ n ((.s s, .tr (.ls xs)) :: delL κ m) a w := by
  obtain ⟨M, Ow, hr⟩ := h
  have hkb := Loc.isL_blk hL
  have hv : VRel w M (fun κ => Ow κ 0) (.sl κ len cap) (a.tmps.getD s undef) := hr.slot s _ hs
  obtain ⟨b, ho, hcap, hval⟩ : ∃ b, Ow κ 0 = some b ∧ len ≤ cap ∧ a.tmps.getD s undef = .slice (some ⟨b, 0, none⟩) len cap := by
    generalize a.tmps.getD s undef = q at hv
    cases hv with | sl _ _ _ b hk hb hc => exact ⟨b, hb, hc, rfl⟩
  obtain ⟨ty0, cells0, b0, cs, e0, ho', hh, hs', hn, h1, hcs⟩ := hr.blk κ _ hkb hb
  obtain ⟨rfl, rfl⟩ : e = ty0 ∧ cells = cells0 := by injection e0 with e1 e2; exact ⟨e1, e2⟩
  obtain rfl : b = b0 := by rw [ho] at ho'; exact Option.some.inj ho'
  have hd : Rel P Γ M Ow n (delL κ m) a w := hr.sub (fun l v hl => by
    rw [lk_del] at hl
    split at hl
    · cases hl
    · exact hl)
  have hM := hd.addM (N := len * es) hL ho (by rw [lk_del, if_pos rfl])
  refine ⟨_, Ow, hM.label ?_⟩
  have lin : ∀ {i j : Nat}, i < xs.length → j < es → i * es + j < len * es := by
    intro i j hi hj
    have : (i + 1) * es ≤ len * es := Nat.mul_le_mul_right _ (by omega)
    rw [Nat.succ_mul] at this; omega
  rw [hval, ← hlen]
  refine VRel.tr _ _ ?_
  by_cases h0 : xs.length = 0
  · obtain rfl := List.eq_nil_of_length_eq_zero h0
    exact .nil _ _
  · refine .ls xs b 0 es cap (fun i j => cs.getD (i * es + j) undef) (by omega) hx ?_ ?_ ?_ ?_
    · intro i j hi hj; exact .inr ⟨rfl, by rw [Nat.zero_add, hlen]; exact lin hi hj⟩
    · intro i j hi hj
      have := lin hi hj
      have hl : i * es + j < cs.size := by omega
      simp [World.cell?, hh, hl]
    · intro i j hi hj
      have := lin hi hj
      have hl : i * es + j < cs.size := by omega
      have := h1 (i * es + j) cs[i * es + j] (by simp [hl])
      simpa [hl] using this
    · intro i j x y hxi hyj
      obtain ⟨v, hv1, hv2⟩ := hc i j x y hxi hyj
      have hil : i < xs.length := by
        rcases Nat.lt_or_ge i xs.length with h | h
        · exact h
        · rw [List.getElem?_eq_none h] at hxi; cases hxi
      have hjl : j < es := by
        have := hx x (List.mem_of_getElem? hxi)
        rcases Nat.lt_or_ge j x.cells.length with h | h
        · omega
        · rw [List.getElem?_eq_none h] at hyj; cases hyj
      have := lin hil hjl
      have hl : i * es + j < cs.size := by omega
      have h3 := deg_vrel (hcs (i * es + j) v cs[i * es + j] hv1 (by simp [hl]))
      rw [hv2] at h3
      have h4 : Rep w M y cs[i * es + j] := by cases h3 with | tr _ _ h => exact h
      have e : cs.getD (i * es + j) undef = cs[i * es + j] := by simp [hl]
      rw [e]
      exact h4.mono (fun c o hc => ⟨.inl hc, rfl⟩)
theorem Tr.turn {c : Code} {Q : Exit → Store → Prop} {m' : Store} (ht : ∀ Γ a w, RelX P Γ n m a w → RelX P Γ n m' a w) (k : Tr P G n c m' Q) : Tr P G n c m Q := fun Γ hΓ a w hr => k Γ hΓ a w (ht Γ a w hr)
theorem Sq.turn {ops l : List Oper} {K : Store → Prop} {m' : Store} (ht : ∀ Γ a w, RelX P Γ n m a w → RelX P Γ n m' a w) (k : Sq P G n ops l m' K) : Sq P G n ops l m K := fun Γ hΓ a w hr Q hQ => k Γ hΓ a w (ht Γ a w hr) Q hQ
theorem RelX.freeze1 {Γ : Ctx} {a : Act} {w : World} (h : RelX P Γ n m a w) {s : Nat} {κ : Loc} {cap : Nat} {e : TypeId} {xs : List T} (hs : lk m (.s s) = some (.sl κ xs.length cap)) (hb : lk m κ = some (.blk e (xs.map .tr))) (hL : κ.isL = true) (hx : ∀ x, x ∈ xs → x.cells = [x]) :
    RelX P Γ n ((.s s, .tr (.ls xs)) :: delL κ m) a w :=
  h.freeze (es := 1) hs hb hL rfl (by simp) (fun x hm => by rw [hx x hm]; rfl) (fun i j x y hxi hyj => by
    have hm := hx x (List.mem_of_getElem? hxi)
    rw [hm] at hyj
    obtain rfl : j = 0 := by
      cases j with
      | zero => rfl
      | succ j => simp at hyj
    simp at hyj; subst hyj
    exact ⟨.tr x, by simp [hxi], rfl⟩)
end
end Go.Lg

set_option linter.unusedVariables false
set_option linter.unusedSimpArgs false
namespace Go.Lg
open Go Go.RowKit
section
variable {P : Program} {G : Env} {n : Nat} {tab : Tab} {m : Store}
def evRaw (n : Nat) (ops : List Oper) (o : Oper) (m : Store) : Option (FuncId × List Value × Nat) := match o.op, o.dst, gOk m ops o.guard with
  | .call ⟨.value (.func f), args, _⟩, some d, true => match Nat.blt d n, valsO m args.toList with
    | true, some vs => some (f, vs, d)
    | _, _ => none
  | _, _, _ => none
theorem Sq.raw {ops l : List Oper} {o : Oper} {f : FuncId} {vs : List Value} {d : Nat} {K : Store → Prop} {m' : Store} {fr : List Loc} {Post : World → Value → World → Prop} (h : evRaw n ops o m = some (f, vs, d)) (hcl : Callable P f)
    (hc : ∀ w, Calls P f vs.toArray w fun e w' => ∃ v, e = .returned v ∧ Post w v w') (hf : (freshB fr m && pinB fr G.pins) = true)
    (hp : ∀ (Γ : Ctx) (M : Nat → Nat → Prop) (Ow : Loc → Nat → Option Nat) (a : Act) (w : World) (v : Value) (w' : World), (∀ κ, κ ∈ fr → Γ.pin κ = none) → Rel P Γ M Ow n m a w → d < n → Post w v w' → RelX P Γ n m' (a.put (some d) v) w')
    (k : Sq P G n ops l m' K) : Sq P G n ops (o :: l) m K := by
  obtain ⟨dst, op, type, pos, after, guard⟩ := o
  unfold evRaw at h
  simp only at h
  split at h
  · rename_i f' cargs ats d' hgd
    split at h
    · rename_i vs' hlt hvs
      simp only [Option.some.injEq, Prod.mk.injEq] at h
      obtain ⟨rfl, rfl, rfl⟩ := h
      have hd : d' < n := Nat.lt_of_succ_le (Nat.le_of_ble_eq_true hlt)
      rw [Bool.and_eq_true] at hf
      obtain ⟨fn, hfn, hname, hbody⟩ := hcl
      intro Γ hΓ a w hr Q hQ
      obtain ⟨M, Ow, hr⟩ := hr
      have hpn : ∀ κ, κ ∈ fr → Γ.pin κ = none := fun κ hk => by
        cases hx : Γ.pin κ with
        | none => rfl
        | some b => exact absurd (hΓ.2 κ (by rw [hx]; simp)) (pinB_eq hf.2 κ hk)
      have hw := wanted_of hgd hr (o := ⟨some d', .call ⟨.value (.func f'), cargs, ats⟩, type, pos, after, guard⟩)
      have hrun : (execOp a.eval (⟨some d', .call ⟨.value (.func f'), cargs, ats⟩, type, pos, after, guard⟩ : Oper)).run P w = .ok (.enter f' vs'.toArray) w := by
        have hname' : ¬ fn.name = "runtime.NumGoroutine" := by simpa using hname
        have hbody' : ¬ fn.body = none := fun e => by rw [e] at hbody; cases hbody
        have hv : cargs.map a.eval = vs'.toArray := by
          have := valsO_ok hr hvs
          rw [← this, ← Array.toList_map]
        have hfe : a.eval (.func f') = .func (.func f') #[] #[] := rfl
        simp [execOp, resolve, Deferred.ofValue, hfe, invoke, callFunc, hfn, hname', hbody', hv]
      unfold wpListIn
      rw [if_pos hw]
      refine ⟨fun _ _ => trivial, ?_⟩
      rw [show (FW Γ.rd).round = Γ.rd from rfl, semAt_of Γ.rd hrun (fun d e => by cases e), Oper.uponIn_enter]
      refine ⟨fun h => Bool.noConfusion (show false = true from h), FW.calls ((hc w).mono ?_)⟩
      rintro e w' ⟨v, rfl, hP⟩
      exact k Γ hΓ _ w' (hp Γ M Ow a w v w' hpn hr hd hP) Q hQ
    · cases h
  · cases h
theorem Tr.cut {x y : Code} {Q : Exit → Store → Prop} (S0 : Store) (h : Tr P G n x m (thenQ (fun m' => Sub S0 m') Q)) (k : Tr P G n y S0 Q) : Tr P G n (.seq x y) m Q :=
  zS (h.mono fun e m' hq => by
    cases e with
    | normal => exact fun Γ hΓ a w hr => k Γ hΓ a w (hr.sub hq)
    | _ => exact hq)
theorem DSq.evr {ops l : List Oper} {o : Oper} {rs : List (Loc × AV)} {d : Nat} {v v' : AV} {m' : Store} {fs : List Fp} (hT : TabOk P tab) (h : evD tab n ops o m = some (⟨[], rs, [(.s d, v)]⟩, (.s d, v) :: m)) (e : v = v') (k : DSq P G n ops l ((.s d, v') :: m) fs m') :
    DSq P G n ops (o :: l) m (⟨[], rs, [(.s d, v')]⟩ :: fs) m' := by
  subst e
  exact zD hT h rfl k
end
end Go.Lg

set_option linter.unusedVariables false
set_option linter.unusedSimpArgs false
namespace Go.Lg
open Go Go.RowKit
section
variable {P : Program} {G : Env} {n : Nat} {tab : Tab} {m : Store}
def evEqNil (tab : Tab) (n : Nat) (ops : List Oper) (o : Oper) (m : Store) : Option (List T × Nat) := match o.op, o.dst, gOk m ops o.guard with
  | .binOp .eql t x (.const (.slice none 0 0)) _, some d, true => match Nat.blt d n, tlk tab t, opV m x with
    | true, some ⟨_, _, .slice _, _⟩, some v => match lsOf v with
      | some xs => some (xs, d)
      | none => none
    | _, _, _ => none
  | _, _, _ => none
theorem Sq.eqNil {ops l : List Oper} {o : Oper} {xs : List T} {d : Nat} {K : Store → Prop} (hT : TabOk P tab) (h : evEqNil tab n ops o m = some (xs, d)) (k : ∀ b : Bool, (b = true → xs = []) → Sq P G n ops l ((.s d, .tr (.sc (.bool b))) :: m) K) : Sq P G n ops (o :: l) m K := by
  obtain ⟨dst, op, type, pos, after, guard⟩ := o
  unfold evEqNil at h
  simp only at h
  split at h
  · rename_i t x uu d' hgd
    split at h
    · rename_i e _ v hlt ht hv
      split at h
      · rename_i xs' hls
        simp only [Option.some.injEq, Prod.mk.injEq] at h
        obtain ⟨rfl, rfl⟩ := h
        intro Γ hΓ a w hr Q hQ
        obtain ⟨M, Ow, hr0⟩ := hr
        obtain ⟨q1, hq1⟩ := opV_ok hv hr0
        have hv' := deg_vrel hq1
        rw [lsOf_eq hls] at hv'
        have hrep : Rep w M (.ls xs') (a.eval x) := by cases hv' with | tr _ _ h => exact h
        obtain ⟨ad, cap, e1, hcase⟩ := hrep.ls_inv
        have hb : ad.isNone = true → xs' = [] := fun h => by
          rcases hcase with h1 | ⟨b, off, es, h2, _⟩
          · exact h1
          · rw [h2] at h; cases h
        have hu := hT.slice ht rfl
        have hrun : (execOp a.eval (⟨some d', .binOp .eql t x (.const (.slice none 0 0)) uu, type, pos, after, guard⟩ : Oper)).run P w = .ok (.value (.bool ad.isNone)) w := by
          have hce : a.eval (.const (.slice none 0 0)) = .slice none 0 0 := rfl
          have he := run_equal_slice_nil (P := P) w t e ad xs'.length cap hu
          simp [execOp, hce, e1, eqGuard, binOp, he]
        have hd : d' < n := Nat.lt_of_succ_le (Nat.le_of_ble_eq_true hlt)
        have hw := wanted_of hgd hr0 (o := ⟨some d', .binOp .eql t x (.const (.slice none 0 0)) uu, type, pos, after, guard⟩)
        unfold wpListIn
        rw [if_pos hw]
        refine ⟨fun _ _ => trivial, ?_⟩
        rw [show (FW Γ.rd).round = Γ.rd from rfl, semAt_of Γ.rd hrun (fun d e => by cases e), Oper.uponIn_value]
        exact k ad.isNone hb Γ hΓ _ w ⟨M, Ow, hr0.put hd (.tr _ _ (.sc _ rfl))⟩ Q hQ
      · cases h
    · cases h
  · cases h
end
end Go.Lg

set_option linter.unusedVariables false
set_option linter.unusedSimpArgs false
namespace Go.Lg
open Go Go.RowKit
section
variable {P : Program} {G : Env} {n : Nat} {tab : Tab} {m : Store}
def evIdxA (tab : Tab) (n : Nat) (ops : List Oper) (o : Oper) (m : Store) : Option (Loc × Nat × Nat × Nat × Int × Nat) := match o.op, o.dst, gOk m ops o.guard with
  | .indexAddr t x i, some d, true => match Nat.blt d n, tlk tab t with
    | true, some ⟨_, _, .array len e, _⟩ => match tlk tab e, opV m x, opV m i with
      | some ⟨es, _, _, _⟩, some (.ptr κ off), some (.tr (.sc (.int _ j))) => some (κ, off, len, es, j, d)
      | _, _, _ => none
    | _, _ => none
  | _, _, _ => none
theorem Sq.indexA {ops l : List Oper} {o : Oper} {κ : Loc} {off len es d : Nat} {j : Int} {K : Store → Prop} (hT : TabOk P tab) (h : evIdxA tab n ops o m = some (κ, off, len, es, j, d)) (h0 : 0 ≤ j) (hj : j < len)
    (k : Sq P G n ops l ((.s d, .ptr κ (off + j.toNat * es)) :: m) K) : Sq P G n ops (o :: l) m K := by
  obtain ⟨dst, op, type, pos, after, guard⟩ := o
  unfold evIdxA at h
  simp only at h
  split at h
  · rename_i t ox oi d' hgd
    split at h
    · rename_i len0 e _ hlt ht
      split at h
      · rename_i es' _ _ _ κ' off' ik j' he hv hi
        simp only [Option.some.injEq, Prod.mk.injEq] at h
        obtain ⟨rfl, rfl, rfl, rfl, rfl, rfl⟩ := h
        refine Sq.do hgd (fun Γ M Ow a w hr => ?_) k
        obtain ⟨q1, hq1⟩ := opV_ok hv hr
        obtain ⟨q2, hq2⟩ := opV_ok hi hr
        have e2 := (sc_eval (Γ := Γ) hq2).1
        obtain ⟨b, hk, hb, e1⟩ := opK_ptr (v := .unk) (Γ := Γ) (rs := []) hq1
        obtain ⟨ie, hie, hsz, _⟩ := hT.info he
        have hsz : ie.size = es' := hsz
        have hu := hT.array ht rfl
        have hin : 0 ≤ j' ∧ j' < (len0 : Int) := ⟨h0, hj⟩
        refine ⟨.pointer (some ⟨b, off' + j'.toNat * es', none⟩), w, ?_, M, Ow, hr.put (Nat.lt_of_succ_le (Nat.le_of_ble_eq_true hlt)) (.ptr κ' _ b hk hb)⟩
        simp [execOp, e1, e2, Instr.indexAt, asIntOf, run_underlying hu, hin, sizeOf, typeInfo, hie, hsz, add_lit, Instr.sureAddr]
      · cases h
    · cases h
  · cases h
end
end Go.Lg

set_option linter.unusedVariables false
set_option linter.unusedSimpArgs false
namespace Go.Lg.Tryz
open Go Go.Proofs Go.RowKit Go.Lib Go.Lg.Sem
abbrev ndT (n : Nd) : T := .ag [.sc (.int .i64 n.s), .ls (n.r.map cmpsT)]
abbrev rlsT (r : Rls) : T := .ag [.sc (.int .i64 r.v.a), .sc (.int .i64 r.v.b), .sc (.int .i64 r.v.c), .sc (.string r.v.p), .sc (.int .i64 r.level), .ls (r.needs.map ndT)]
abbrev svcT (s : Svc) : T := .ag [.sc (.string s.name), .ls (s.rels.map rlsT)]
abbrev ctlT (c : Ctl) : T := .ag [.ls (c.map svcT)]
theorem idxNd (g : Nat) (caps : List AV) (H : Store) {α : Type} (enc : α → T) (p : α → Bool) (hc : ExtOnly caps) (hH : ∀ κ v, lk H κ = some v → (∃ j, κ = .e j)) (hHr : ∀ κ ty cells, lk H κ = some (.blk ty cells) → ExtOnly cells) (xs : List α)
    (hx : ∀ x, x ∈ xs → El true 2 (enc x) ∧ Fn Tryz.prog Gw g (.tr (enc x) :: caps) H (· = .tr (.sc (.bool (p x))))) (hn : xs.length ≤ 1073741824) :
    Fn Tryz.prog Gw 89 [.tr (.ls (xs.map enc)), .fn g caps] H (fun r => ∃ i : Int, r = .tr (.sc (.int .i64 i)) ∧ (decide (i ≥ 0) = xs.any p)) := by
  refine Fn.of tab_ok Tryz.func89 rfl (by decide) (by simp [Tryz.f89]) rfl (fun κ v h => by obtain ⟨j, rfl⟩ := hH κ v h; rfl) Gw.below ?_
  repeat' (first|refine zS ?_|refine zR ?_|refine zE tab_ok rfl rfl ?_|refine zN ?_|(refine zG rfl rfl (fun _ => ?_) fun _ => ?_)<;>refine zE tab_ok rfl rfl ?_|(refine zC rfl (fun _ => ?_) fun _ => ?_)<;>try (rename_i h; cases h; done)|refine zB ?_|refine zK ?_|refine zZ ⟨_, rfl, ?_⟩)
  refine Tr.loopS (fun i : Nat => [(.s 0, .tr (.ls (xs.map enc))), (.s 1, .fn g caps), (.s 7, .tr (.sc (.int .i64 ((xs.map enc).length : Int)))), (.s 8, .tr (.sc (.int .i64 (i : Int))))] ++ H) (fun i => xs.length - i) (fun i => i ≤ xs.length ∧ (xs.take i).any p = false)
    0 ⟨by omega, by simp⟩ (Sub.app ⟨rfl, rfl, rfl, rfl, trivial⟩ (fun κ v h => by obtain ⟨j, rfl⟩ := hH κ v h; exact h)) ?_
  rintro i ⟨hi, hp⟩
  repeat' (first | refine zS ?_ | refine zR ?_ | refine zE tab_ok rfl rfl ?_ | refine zN ?_ | refine zB ?_ | refine zK ?_)
  refine zC rfl (fun h => ?_) (fun h => ?_)
  · have hlt : i < xs.length := by simpa using h
    obtain ⟨hxe, hxf⟩ := hx _ (List.getElem_mem hlt)
    repeat' (first | refine zS ?_ | refine zR ?_ | refine zE tab_ok rfl rfl ?_ | refine zN ?_ | refine zB ?_ | refine zK ?_)
    refine zI (x := enc xs[i]) tab_ok rfl (by omega) (by simp [hlt]) hxe.len ?_
    refine Sq.loadEl (x := enc xs[i]) tab_ok rfl hxe ?_
    refine Sq.callE (H := H) rfl (by
      intro x hx
      rcases List.mem_cons.1 hx with rfl | hx
      · intro κ h; cases h
      · exact hc x hx) (fun κ v h => by obtain ⟨j, rfl⟩ := hH κ v h; exact ⟨⟨j, rfl⟩, h⟩) hHr hxf ?_
    rintro _ rfl
    refine zN ?_
    refine zC rfl (fun hb => ?_) (fun hb => ?_)
    · repeat' (first|refine zS ?_|refine zR ?_|refine zE tab_ok rfl rfl ?_|refine zN ?_|(refine zG rfl rfl (fun _ => ?_) fun _ => ?_)<;>refine zE tab_ok rfl rfl ?_|(refine zC rfl (fun _ => ?_) fun _ => ?_)<;>try (rename_i h; cases h; done)|refine zB ?_|refine zK ?_|refine zZ ⟨_, rfl, ?_⟩)
      refine ⟨_, rfl, ?_⟩
      have : xs.any p = true := List.any_eq_true.2 ⟨_, List.getElem_mem hlt, hb⟩
      rw [this]; simp
    · refine zK ?_
      refine zR ?_
      refine zE tab_ok rfl rfl ?_
      refine Sq.re (wrapz (z := ((i + 1 : Nat) : Int)) (by omega) (by omega) (by omega)) ?_
      refine zE tab_ok rfl rfl ?_
      refine zN ?_
      refine ⟨i + 1, ⟨by omega, ?_⟩, by omega, Sub.app ⟨rfl, rfl, rfl, rfl, trivial⟩ (fun κ v h => by obtain ⟨j, rfl⟩ := hH κ v h; exact h)⟩
      rw [List.take_succ_eq_append_getElem hlt, List.any_append, hp]; simp [hb]
  · have hge : ¬ i < xs.length := by simpa using h
    refine Tr.exit ?_
    repeat' (first|refine zS ?_|refine zR ?_|refine zE tab_ok rfl rfl ?_|refine zN ?_|(refine zG rfl rfl (fun _ => ?_) fun _ => ?_)<;>refine zE tab_ok rfl rfl ?_|(refine zC rfl (fun _ => ?_) fun _ => ?_)<;>try (rename_i h; cases h; done)|refine zB ?_|refine zK ?_|refine zZ ⟨_, rfl, ?_⟩)
    refine ⟨_, rfl, ?_⟩
    rw [List.take_of_length_le (by omega)] at hp
    rw [hp]; rfl
theorem containsNd (g : Nat) (caps : List AV) (H : Store) {α : Type} (enc : α → T) (p : α → Bool) (hc : ExtOnly caps) (hH : ∀ κ v, lk H κ = some v → (∃ j, κ = .e j)) (hHr : ∀ κ ty cells, lk H κ = some (.blk ty cells) → ExtOnly cells) (xs : List α)
    (hx : ∀ x, x ∈ xs → El true 2 (enc x) ∧ Fn Tryz.prog Gw g (.tr (enc x) :: caps) H (· = .tr (.sc (.bool (p x))))) (hn : xs.length ≤ 1073741824) :
    Fn Tryz.prog Gw 67 [.tr (.ls (xs.map enc)), .fn g caps] H (· = .tr (.sc (.bool (xs.any p)))) := by
  refine Fn.of tab_ok Tryz.func67 rfl (by decide) (by simp [Tryz.f67]) rfl (fun κ v h => by obtain ⟨j, rfl⟩ := hH κ v h; rfl) Gw.below ?_
  repeat' (first|refine zS ?_|refine zR ?_|refine zE tab_ok rfl rfl ?_|refine zN ?_|(refine zG rfl rfl (fun _ => ?_) fun _ => ?_)<;>refine zE tab_ok rfl rfl ?_|(refine zC rfl (fun _ => ?_) fun _ => ?_)<;>try (rename_i h; cases h; done)|refine zB ?_|refine zK ?_|refine zZ ⟨_, rfl, ?_⟩)
  refine Sq.callE (H := H) rfl (by
      intro x hx
      rcases List.mem_cons.1 hx with rfl | hx
      · intro κ h; cases h
      · rcases List.mem_cons.1 hx with rfl | hx
        · intro κ h; cases h with | fn _ _ x hx h => exact hc x hx κ h
        · cases hx) (fun κ v h => by obtain ⟨j, rfl⟩ := hH κ v h; exact ⟨⟨j, rfl⟩, h⟩) hHr (idxNd g caps H enc p hc hH hHr xs hx hn) ?_
  rintro _ ⟨i, rfl, hi⟩
  repeat' (first|refine zS ?_|refine zR ?_|refine zE tab_ok rfl rfl ?_|refine zN ?_|(refine zG rfl rfl (fun _ => ?_) fun _ => ?_)<;>refine zE tab_ok rfl rfl ?_|(refine zC rfl (fun _ => ?_) fun _ => ?_)<;>try (rename_i h; cases h; done)|refine zB ?_|refine zK ?_|refine zZ ⟨_, rfl, ?_⟩)
  rw [hi]
theorem idxRls (g : Nat) (caps : List AV) (H : Store) {α : Type} (enc : α → T) (p : α → Bool) (hc : ExtOnly caps) (hH : ∀ κ v, lk H κ = some v → (∃ j, κ = .e j)) (hHr : ∀ κ ty cells, lk H κ = some (.blk ty cells) → ExtOnly cells) (xs : List α)
    (hx : ∀ x, x ∈ xs → El true 6 (enc x) ∧ Fn Tryz.prog Gw g (.tr (enc x) :: caps) H (· = .tr (.sc (.bool (p x))))) (hn : xs.length ≤ 1073741824) :
    Fn Tryz.prog Gw 88 [.tr (.ls (xs.map enc)), .fn g caps] H (fun r => ∃ i : Int, r = .tr (.sc (.int .i64 i)) ∧ (decide (i ≥ 0) = xs.any p)) := by
  refine Fn.of tab_ok Tryz.func88 rfl (by decide) (by simp [Tryz.f88]) rfl (fun κ v h => by obtain ⟨j, rfl⟩ := hH κ v h; rfl) Gw.below ?_
  repeat' (first|refine zS ?_|refine zR ?_|refine zE tab_ok rfl rfl ?_|refine zN ?_|(refine zG rfl rfl (fun _ => ?_) fun _ => ?_)<;>refine zE tab_ok rfl rfl ?_|(refine zC rfl (fun _ => ?_) fun _ => ?_)<;>try (rename_i h; cases h; done)|refine zB ?_|refine zK ?_|refine zZ ⟨_, rfl, ?_⟩)
  refine Tr.loopS (fun i : Nat => [(.s 0, .tr (.ls (xs.map enc))), (.s 1, .fn g caps), (.s 7, .tr (.sc (.int .i64 ((xs.map enc).length : Int)))), (.s 8, .tr (.sc (.int .i64 (i : Int))))] ++ H) (fun i => xs.length - i) (fun i => i ≤ xs.length ∧ (xs.take i).any p = false)
    0 ⟨by omega, by simp⟩ (Sub.app ⟨rfl, rfl, rfl, rfl, trivial⟩ (fun κ v h => by obtain ⟨j, rfl⟩ := hH κ v h; exact h)) ?_
  rintro i ⟨hi, hp⟩
  repeat' (first | refine zS ?_ | refine zR ?_ | refine zE tab_ok rfl rfl ?_ | refine zN ?_ | refine zB ?_ | refine zK ?_)
  refine zC rfl (fun h => ?_) (fun h => ?_)
  · have hlt : i < xs.length := by simpa using h
    obtain ⟨hxe, hxf⟩ := hx _ (List.getElem_mem hlt)
    repeat' (first | refine zS ?_ | refine zR ?_ | refine zE tab_ok rfl rfl ?_ | refine zN ?_ | refine zB ?_ | refine zK ?_)
    refine zI (x := enc xs[i]) tab_ok rfl (by omega) (by simp [hlt]) hxe.len ?_
    refine Sq.loadEl (x := enc xs[i]) tab_ok rfl hxe ?_
    refine Sq.callE (H := H) rfl (by
      intro x hx
      rcases List.mem_cons.1 hx with rfl | hx
      · intro κ h; cases h
      · exact hc x hx) (fun κ v h => by obtain ⟨j, rfl⟩ := hH κ v h; exact ⟨⟨j, rfl⟩, h⟩) hHr hxf ?_
    rintro _ rfl
    refine zN ?_
    refine zC rfl (fun hb => ?_) (fun hb => ?_)
    · repeat' (first|refine zS ?_|refine zR ?_|refine zE tab_ok rfl rfl ?_|refine zN ?_|(refine zG rfl rfl (fun _ => ?_) fun _ => ?_)<;>refine zE tab_ok rfl rfl ?_|(refine zC rfl (fun _ => ?_) fun _ => ?_)<;>try (rename_i h; cases h; done)|refine zB ?_|refine zK ?_|refine zZ ⟨_, rfl, ?_⟩)
      refine ⟨_, rfl, ?_⟩
      have : xs.any p = true := List.any_eq_true.2 ⟨_, List.getElem_mem hlt, hb⟩
      rw [this]; simp
    · refine zK ?_
      refine zR ?_
      refine zE tab_ok rfl rfl ?_
      refine Sq.re (wrapz (z := ((i + 1 : Nat) : Int)) (by omega) (by omega) (by omega)) ?_
      refine zE tab_ok rfl rfl ?_
      refine zN ?_
      refine ⟨i + 1, ⟨by omega, ?_⟩, by omega, Sub.app ⟨rfl, rfl, rfl, rfl, trivial⟩ (fun κ v h => by obtain ⟨j, rfl⟩ := hH κ v h; exact h)⟩
      rw [List.take_succ_eq_append_getElem hlt, List.any_append, hp]; simp [hb]
  · have hge : ¬ i < xs.length := by simpa using h
    refine Tr.exit ?_
    repeat' (first|refine zS ?_|refine zR ?_|refine zE tab_ok rfl rfl ?_|refine zN ?_|(refine zG rfl rfl (fun _ => ?_) fun _ => ?_)<;>refine zE tab_ok rfl rfl ?_|(refine zC rfl (fun _ => ?_) fun _ => ?_)<;>try (rename_i h; cases h; done)|refine zB ?_|refine zK ?_|refine zZ ⟨_, rfl, ?_⟩)
    refine ⟨_, rfl, ?_⟩
    rw [List.take_of_length_le (by omega)] at hp
    rw [hp]; rfl
theorem containsRls (g : Nat) (caps : List AV) (H : Store) {α : Type} (enc : α → T) (p : α → Bool) (hc : ExtOnly caps) (hH : ∀ κ v, lk H κ = some v → (∃ j, κ = .e j)) (hHr : ∀ κ ty cells, lk H κ = some (.blk ty cells) → ExtOnly cells) (xs : List α)
    (hx : ∀ x, x ∈ xs → El true 6 (enc x) ∧ Fn Tryz.prog Gw g (.tr (enc x) :: caps) H (· = .tr (.sc (.bool (p x))))) (hn : xs.length ≤ 1073741824) :
    Fn Tryz.prog Gw 65 [.tr (.ls (xs.map enc)), .fn g caps] H (· = .tr (.sc (.bool (xs.any p)))) := by
  refine Fn.of tab_ok Tryz.func65 rfl (by decide) (by simp [Tryz.f65]) rfl (fun κ v h => by obtain ⟨j, rfl⟩ := hH κ v h; rfl) Gw.below ?_
  repeat' (first|refine zS ?_|refine zR ?_|refine zE tab_ok rfl rfl ?_|refine zN ?_|(refine zG rfl rfl (fun _ => ?_) fun _ => ?_)<;>refine zE tab_ok rfl rfl ?_|(refine zC rfl (fun _ => ?_) fun _ => ?_)<;>try (rename_i h; cases h; done)|refine zB ?_|refine zK ?_|refine zZ ⟨_, rfl, ?_⟩)
  refine Sq.callE (H := H) rfl (by
      intro x hx
      rcases List.mem_cons.1 hx with rfl | hx
      · intro κ h; cases h
      · rcases List.mem_cons.1 hx with rfl | hx
        · intro κ h; cases h with | fn _ _ x hx h => exact hc x hx κ h
        · cases hx) (fun κ v h => by obtain ⟨j, rfl⟩ := hH κ v h; exact ⟨⟨j, rfl⟩, h⟩) hHr (idxRls g caps H enc p hc hH hHr xs hx hn) ?_
  rintro _ ⟨i, rfl, hi⟩
  repeat' (first|refine zS ?_|refine zR ?_|refine zE tab_ok rfl rfl ?_|refine zN ?_|(refine zG rfl rfl (fun _ => ?_) fun _ => ?_)<;>refine zE tab_ok rfl rfl ?_|(refine zC rfl (fun _ => ?_) fun _ => ?_)<;>try (rename_i h; cases h; done)|refine zB ?_|refine zK ?_|refine zZ ⟨_, rfl, ?_⟩)
  rw [hi]
theorem idxSvc (g : Nat) (caps : List AV) (H : Store) {α : Type} (enc : α → T) (p : α → Bool) (hc : ExtOnly caps) (hH : ∀ κ v, lk H κ = some v → (∃ j, κ = .e j)) (hHr : ∀ κ ty cells, lk H κ = some (.blk ty cells) → ExtOnly cells) (xs : List α)
    (hx : ∀ x, x ∈ xs → El true 2 (enc x) ∧ Fn Tryz.prog Gw g (.tr (enc x) :: caps) H (· = .tr (.sc (.bool (p x))))) (hn : xs.length ≤ 1073741824) :
    Fn Tryz.prog Gw 76 [.tr (.ls (xs.map enc)), .fn g caps] H (fun r => ∃ i : Int, r = .tr (.sc (.int .i64 i)) ∧ (decide (i ≥ 0) = xs.any p)) := by
  refine Fn.of tab_ok Tryz.func76 rfl (by decide) (by simp [Tryz.f76]) rfl (fun κ v h => by obtain ⟨j, rfl⟩ := hH κ v h; rfl) Gw.below ?_
  repeat' (first|refine zS ?_|refine zR ?_|refine zE tab_ok rfl rfl ?_|refine zN ?_|(refine zG rfl rfl (fun _ => ?_) fun _ => ?_)<;>refine zE tab_ok rfl rfl ?_|(refine zC rfl (fun _ => ?_) fun _ => ?_)<;>try (rename_i h; cases h; done)|refine zB ?_|refine zK ?_|refine zZ ⟨_, rfl, ?_⟩)
  refine Tr.loopS (fun i : Nat => [(.s 0, .tr (.ls (xs.map enc))), (.s 1, .fn g caps), (.s 7, .tr (.sc (.int .i64 ((xs.map enc).length : Int)))), (.s 8, .tr (.sc (.int .i64 (i : Int))))] ++ H) (fun i => xs.length - i) (fun i => i ≤ xs.length ∧ (xs.take i).any p = false)
    0 ⟨by omega, by simp⟩ (Sub.app ⟨rfl, rfl, rfl, rfl, trivial⟩ (fun κ v h => by obtain ⟨j, rfl⟩ := hH κ v h; exact h)) ?_
  rintro i ⟨hi, hp⟩
  repeat' (first | refine zS ?_ | refine zR ?_ | refine zE tab_ok rfl rfl ?_ | refine zN ?_ | refine zB ?_ | refine zK ?_)
  refine zC rfl (fun h => ?_) (fun h => ?_)
  · have hlt : i < xs.length := by simpa using h
    obtain ⟨hxe, hxf⟩ := hx _ (List.getElem_mem hlt)
    repeat' (first | refine zS ?_ | refine zR ?_ | refine zE tab_ok rfl rfl ?_ | refine zN ?_ | refine zB ?_ | refine zK ?_)
    refine zI (x := enc xs[i]) tab_ok rfl (by omega) (by simp [hlt]) hxe.len ?_
    refine Sq.loadEl (x := enc xs[i]) tab_ok rfl hxe ?_
    refine Sq.callE (H := H) rfl (by
      intro x hx
      rcases List.mem_cons.1 hx with rfl | hx
      · intro κ h; cases h
      · exact hc x hx) (fun κ v h => by obtain ⟨j, rfl⟩ := hH κ v h; exact ⟨⟨j, rfl⟩, h⟩) hHr hxf ?_
    rintro _ rfl
    refine zN ?_
    refine zC rfl (fun hb => ?_) (fun hb => ?_)
    · repeat' (first|refine zS ?_|refine zR ?_|refine zE tab_ok rfl rfl ?_|refine zN ?_|(refine zG rfl rfl (fun _ => ?_) fun _ => ?_)<;>refine zE tab_ok rfl rfl ?_|(refine zC rfl (fun _ => ?_) fun _ => ?_)<;>try (rename_i h; cases h; done)|refine zB ?_|refine zK ?_|refine zZ ⟨_, rfl, ?_⟩)
      refine ⟨_, rfl, ?_⟩
      have : xs.any p = true := List.any_eq_true.2 ⟨_, List.getElem_mem hlt, hb⟩
      rw [this]; simp
    · refine zK ?_
      refine zR ?_
      refine zE tab_ok rfl rfl ?_
      refine Sq.re (wrapz (z := ((i + 1 : Nat) : Int)) (by omega) (by omega) (by omega)) ?_
      refine zE tab_ok rfl rfl ?_
      refine zN ?_
      refine ⟨i + 1, ⟨by omega, ?_⟩, by omega, Sub.app ⟨rfl, rfl, rfl, rfl, trivial⟩ (fun κ v h => by obtain ⟨j, rfl⟩ := hH κ v h; exact h)⟩
      rw [List.take_succ_eq_append_getElem hlt, List.any_append, hp]; simp [hb]
  · have hge : ¬ i < xs.length := by simpa using h
    refine Tr.exit ?_
    repeat' (first|refine zS ?_|refine zR ?_|refine zE tab_ok rfl rfl ?_|refine zN ?_|(refine zG rfl rfl (fun _ => ?_) fun _ => ?_)<;>refine zE tab_ok rfl rfl ?_|(refine zC rfl (fun _ => ?_) fun _ => ?_)<;>try (rename_i h; cases h; done)|refine zB ?_|refine zK ?_|refine zZ ⟨_, rfl, ?_⟩)
    refine ⟨_, rfl, ?_⟩
    rw [List.take_of_length_le (by omega)] at hp
    rw [hp]; rfl
theorem containsSvc (g : Nat) (caps : List AV) (H : Store) {α : Type} (enc : α → T) (p : α → Bool) (hc : ExtOnly caps) (hH : ∀ κ v, lk H κ = some v → (∃ j, κ = .e j)) (hHr : ∀ κ ty cells, lk H κ = some (.blk ty cells) → ExtOnly cells) (xs : List α)
    (hx : ∀ x, x ∈ xs → El true 2 (enc x) ∧ Fn Tryz.prog Gw g (.tr (enc x) :: caps) H (· = .tr (.sc (.bool (p x))))) (hn : xs.length ≤ 1073741824) :
    Fn Tryz.prog Gw 55 [.tr (.ls (xs.map enc)), .fn g caps] H (· = .tr (.sc (.bool (xs.any p)))) := by
  refine Fn.of tab_ok Tryz.func55 rfl (by decide) (by simp [Tryz.f55]) rfl (fun κ v h => by obtain ⟨j, rfl⟩ := hH κ v h; rfl) Gw.below ?_
  repeat' (first|refine zS ?_|refine zR ?_|refine zE tab_ok rfl rfl ?_|refine zN ?_|(refine zG rfl rfl (fun _ => ?_) fun _ => ?_)<;>refine zE tab_ok rfl rfl ?_|(refine zC rfl (fun _ => ?_) fun _ => ?_)<;>try (rename_i h; cases h; done)|refine zB ?_|refine zK ?_|refine zZ ⟨_, rfl, ?_⟩)
  refine Sq.callE (H := H) rfl (by
      intro x hx
      rcases List.mem_cons.1 hx with rfl | hx
      · intro κ h; cases h
      · rcases List.mem_cons.1 hx with rfl | hx
        · intro κ h; cases h with | fn _ _ x hx h => exact hc x hx κ h
        · cases hx) (fun κ v h => by obtain ⟨j, rfl⟩ := hH κ v h; exact ⟨⟨j, rfl⟩, h⟩) hHr (idxSvc g caps H enc p hc hH hHr xs hx hn) ?_
  rintro _ ⟨i, rfl, hi⟩
  repeat' (first|refine zS ?_|refine zR ?_|refine zE tab_ok rfl rfl ?_|refine zN ?_|(refine zG rfl rfl (fun _ => ?_) fun _ => ?_)<;>refine zE tab_ok rfl rfl ?_|(refine zC rfl (fun _ => ?_) fun _ => ?_)<;>try (rename_i h; cases h; done)|refine zB ?_|refine zK ?_|refine zZ ⟨_, rfl, ?_⟩)
  rw [hi]
theorem nd_el (c : Nd) : El true 2 (ndT c) := .inl ⟨rfl, _, rfl, rfl⟩
theorem rls_el (c : Rls) : El true 6 (rlsT c) := .inl ⟨rfl, _, rfl, rfl⟩
theorem svc_el (c : Svc) : El true 2 (svcT c) := .inl ⟨rfl, _, rfl, rfl⟩
abbrev intH (j : Int) : Store := [(.e 0, .blk 3 [int j])]
theorem intH_e (v : Int) : ∀ κ u, lk (intH v) κ = some u → ∃ j, κ = .e j := fun κ u h => ⟨0, (lk1 h).1⟩
theorem intH_r (v : Int) : ∀ κ ty cells, lk (intH v) κ = some (.blk ty cells) → ExtOnly cells := fun κ ty cells h => by
  obtain ⟨_, h2⟩ := lk1 h
  injection h2 with h3 h4
  subst h4
  intro x hx κ hr
  simp only [List.mem_cons, List.not_mem_nil, or_false] at hx
  subst hx; cases hr
theorem ask2_ok (j : Int) (n : Nd) : Fn Tryz.prog Gw 68 [.tr (ndT n), .ptr (.e 0) 0] (intH j) (· = bool (n.s == j)) := by
  refine Fn.of tab_ok Tryz.func68 rfl (by decide) (by simp [Tryz.f68]) rfl (fun κ v h => (lk1 h).1 ▸ rfl) Gw.below ?_
  repeat' (first|refine zS ?_|refine zR ?_|refine zE tab_ok rfl rfl ?_|refine zN ?_|(refine zG rfl rfl (fun _ => ?_) fun _ => ?_)<;>refine zE tab_ok rfl rfl ?_|(refine zC rfl (fun _ => ?_) fun _ => ?_)<;>try (rename_i h; cases h; done)|refine zB ?_|refine zK ?_|refine zZ ⟨_, rfl, ?_⟩)
  rfl
theorem ask1_ok (j : Int) (r : Rls) (hn : r.needs.length ≤ 1073741824) : Fn Tryz.prog Gw 66 [.tr (rlsT r), .ptr (.e 0) 0] (intH j) (· = bool (asksN r.needs j)) := by
  refine Fn.of tab_ok Tryz.func66 rfl (by decide) (by simp [Tryz.f66]) rfl (fun κ v h => (lk1 h).1 ▸ rfl) Gw.below ?_
  repeat' (first|refine zS ?_|refine zR ?_|refine zE tab_ok rfl rfl ?_|refine zN ?_|(refine zG rfl rfl (fun _ => ?_) fun _ => ?_)<;>refine zE tab_ok rfl rfl ?_|(refine zC rfl (fun _ => ?_) fun _ => ?_)<;>try (rename_i h; cases h; done)|refine zB ?_|refine zK ?_|refine zZ ⟨_, rfl, ?_⟩)
  refine Sq.callE (H := intH j) rfl (by
      intro x hx
      rcases List.mem_cons.1 hx with rfl | hx
      · intro κ h; cases h
      · rcases List.mem_cons.1 hx with rfl | hx
        · intro κ h; cases h with | fn _ _ x hx h => exact ptr_ext x hx κ h
        · cases hx) (fun κ u h => ⟨intH_e j κ u h, by obtain ⟨rfl, rfl⟩ := lk1 h; rfl⟩) (intH_r j)
    (containsNd 68 [.ptr (.e 0) 0] (intH j) ndT (fun n => n.s == j) ptr_ext (intH_e j) (intH_r j) r.needs (fun n _ => ⟨nd_el n, ask2_ok j n⟩) hn) ?_
  rintro _ rfl
  repeat' (first|refine zS ?_|refine zR ?_|refine zE tab_ok rfl rfl ?_|refine zN ?_|(refine zG rfl rfl (fun _ => ?_) fun _ => ?_)<;>refine zE tab_ok rfl rfl ?_|(refine zC rfl (fun _ => ?_) fun _ => ?_)<;>try (rename_i h; cases h; done)|refine zB ?_|refine zK ?_|refine zZ ⟨_, rfl, ?_⟩)
  rfl
theorem asks_ok (c : Ctl) (i : Nat) (j : Int) (s : Svc) (hs : c[i]? = some s) (hn : s.rels.length ≤ 1073741824) (hm : ∀ r, r ∈ s.rels → r.needs.length ≤ 1073741824) :
    Fn Tryz.prog Gw 36 [.tr (ctlT c), int i, int j] [] (· = bool (asks c i j)) := by
  have e : asks c i j = asksS s j := by unfold asks; rw [hs]
  rw [e]
  refine Fn.of tab_ok Tryz.func36 rfl (by decide) (by simp [Tryz.f36]) rfl (fun κ v h => by cases h) Gw.below ?_
  repeat' (first|refine zS ?_|refine zR ?_|refine zE tab_ok rfl rfl ?_|refine zN ?_|(refine zG rfl rfl (fun _ => ?_) fun _ => ?_)<;>refine zE tab_ok rfl rfl ?_|(refine zC rfl (fun _ => ?_) fun _ => ?_)<;>try (rename_i h; cases h; done)|refine zB ?_|refine zK ?_|refine zZ ⟨_, rfl, ?_⟩)
  refine zI (x := svcT s) tab_ok rfl (by omega) (by simp [hs]) rfl ?_
  repeat' (first|refine zS ?_|refine zR ?_|refine zE tab_ok rfl rfl ?_|refine zN ?_|(refine zG rfl rfl (fun _ => ?_) fun _ => ?_)<;>refine zE tab_ok rfl rfl ?_|(refine zC rfl (fun _ => ?_) fun _ => ?_)<;>try (rename_i h; cases h; done)|refine zB ?_|refine zK ?_|refine zZ ⟨_, rfl, ?_⟩)
  refine Sq.callv rfl (containsRls 66 [.ptr (.e 0) 0] (intH j) rlsT (fun r => asksN r.needs j) ptr_ext (intH_e j) (intH_r j) s.rels (fun r hr => ⟨rls_el r, ask1_ok j r (hm r hr)⟩) hn) ?_
  repeat' (first|refine zS ?_|refine zR ?_|refine zE tab_ok rfl rfl ?_|refine zN ?_|(refine zG rfl rfl (fun _ => ?_) fun _ => ?_)<;>refine zE tab_ok rfl rfl ?_|(refine zC rfl (fun _ => ?_) fun _ => ?_)<;>try (rename_i h; cases h; done)|refine zB ?_|refine zK ?_|refine zZ ⟨_, rfl, ?_⟩)
  rfl
theorem refAsks_ok (c : Ctl) (i : Nat) (j : Int) (s : Svc) (hs : c[i]? = some s) (hn : s.rels.length ≤ 1073741824) (hm : ∀ r, r ∈ s.rels → r.needs.length ≤ 1073741824) :
    Fn Tryz.prog Gw 37 [.tr (ctlT c), int i, int j] [] (· = bool (asks c i j)) := by
  have e : asks c i j = asksS s j := by unfold asks; rw [hs]
  rw [e]
  have hse : (c.map svcT)[i]? = some (svcT s) := by simp [hs]
  refine Fn.of tab_ok Tryz.func37 rfl (by decide) (by simp [Tryz.f37]) rfl (fun κ v h => by cases h) Gw.below ?_
  repeat' (first|refine zS ?_|refine zR ?_|refine zE tab_ok rfl rfl ?_|refine zN ?_|(refine zG rfl rfl (fun _ => ?_) fun _ => ?_)<;>refine zE tab_ok rfl rfl ?_|(refine zC rfl (fun _ => ?_) fun _ => ?_)<;>try (rename_i h; cases h; done)|refine zB ?_|refine zK ?_|refine zZ ⟨_, rfl, ?_⟩)
  refine Tr.loopS (fun k : Nat => [(.s 1, int i), (.s 2, int j), (.s 3, .ptr (.l 3) 0), (.l 3, .blk 28 [.tr (.ls (c.map svcT))]), (.s 7, int k)]) (fun k => s.rels.length - k) (fun k => k ≤ s.rels.length ∧ (s.rels.take k).any (fun r => asksN r.needs j) = false)
    0 ⟨by omega, by simp⟩ (Sub.app (l := [_, _, _, _, _]) (H := []) ⟨rfl, rfl, rfl, rfl, rfl, trivial⟩ (fun κ v h => nomatch h)) ?_
  rintro k ⟨hk, hp⟩
  repeat' (first|refine zS ?_|refine zR ?_|refine zE tab_ok rfl rfl ?_|refine zN ?_|(refine zG rfl rfl (fun _ => ?_) fun _ => ?_)<;>refine zE tab_ok rfl rfl ?_|(refine zC rfl (fun _ => ?_) fun _ => ?_)<;>try (rename_i h; cases h; done)|refine zB ?_|refine zK ?_|refine zZ ⟨_, rfl, ?_⟩)
  refine zI (x := svcT s) tab_ok rfl (by omega) (by simpa using hse) rfl ?_
  refine zE tab_ok rfl rfl ?_
  refine zE tab_ok rfl rfl ?_
  refine zE tab_ok rfl rfl ?_
  refine zE tab_ok rfl rfl ?_
  refine zN ?_
  refine zC rfl (fun h => ?_) (fun h => ?_)
  · have hlt : k < s.rels.length := by
      have h : decide ((k : Int) < ((s.rels.map rlsT).length : Int)) = true := h
      simp only [List.length_map, decide_eq_true_eq] at h; omega
    obtain ⟨r, hr⟩ : ∃ r, s.rels[k] = r := ⟨_, rfl⟩
    have hre : (s.rels.map rlsT)[k]? = some (rlsT r) := by rw [List.getElem?_map, List.getElem?_eq_getElem hlt, hr]; rfl
    have hmr := hm r (hr ▸ List.getElem_mem hlt)
    repeat' (first|refine zS ?_|refine zR ?_|refine zE tab_ok rfl rfl ?_|refine zN ?_|(refine zG rfl rfl (fun _ => ?_) fun _ => ?_)<;>refine zE tab_ok rfl rfl ?_|(refine zC rfl (fun _ => ?_) fun _ => ?_)<;>try (rename_i h; cases h; done)|refine zB ?_|refine zK ?_|refine zZ ⟨_, rfl, ?_⟩)
    refine zI (x := svcT s) tab_ok rfl (by omega) (by simpa using hse) rfl ?_
    repeat' (first|refine zS ?_|refine zR ?_|refine zE tab_ok rfl rfl ?_|refine zN ?_|(refine zG rfl rfl (fun _ => ?_) fun _ => ?_)<;>refine zE tab_ok rfl rfl ?_|(refine zC rfl (fun _ => ?_) fun _ => ?_)<;>try (rename_i h; cases h; done)|refine zB ?_|refine zK ?_|refine zZ ⟨_, rfl, ?_⟩)
    refine zI (x := rlsT r) tab_ok rfl (by omega) (by simpa using hre) rfl ?_
    repeat' (first|refine zS ?_|refine zR ?_|refine zE tab_ok rfl rfl ?_|refine zN ?_|(refine zG rfl rfl (fun _ => ?_) fun _ => ?_)<;>refine zE tab_ok rfl rfl ?_|(refine zC rfl (fun _ => ?_) fun _ => ?_)<;>try (rename_i h; cases h; done)|refine zB ?_|refine zK ?_|refine zZ ⟨_, rfl, ?_⟩)
    refine Tr.loopS (fun n : Nat => [(.s 1, int i), (.s 2, int j), (.s 3, .ptr (.l 3) 0), (.l 3, .blk 28 [.tr (.ls (c.map svcT))]), (.s 7, int k), (.s 8, .ptr (.l 8) 0), (.l 8, .blk 90 [int r.v.a, int r.v.b, int r.v.c, str r.v.p, int r.level, .tr (.ls (r.needs.map ndT))]), (.s 9, int n)])
      (fun n => r.needs.length - n) (fun n => n ≤ r.needs.length ∧ (r.needs.take n).any (fun x => x.s == j) = false)
      0 ⟨by omega, by simp⟩ (Sub.app (l := [_, _, _, _, _, _, _, _]) (H := []) ⟨rfl, rfl, rfl, rfl, rfl, rfl, rfl, rfl, trivial⟩ (fun κ v h => nomatch h)) ?_
    rintro n ⟨hn2, hp2⟩
    repeat' (first|refine zS ?_|refine zR ?_|refine zE tab_ok rfl rfl ?_|refine zN ?_|(refine zG rfl rfl (fun _ => ?_) fun _ => ?_)<;>refine zE tab_ok rfl rfl ?_|(refine zC rfl (fun _ => ?_) fun _ => ?_)<;>try (rename_i h; cases h; done)|refine zB ?_|refine zK ?_|refine zZ ⟨_, rfl, ?_⟩)
    · rename_i h2
      have hlt2 : n < r.needs.length := by simp only [List.length_map, decide_eq_true_eq] at h2; omega
      obtain ⟨x, hx⟩ : ∃ x, r.needs[n] = x := ⟨_, rfl⟩
      have hxe : (r.needs.map ndT)[n]? = some (ndT x) := by rw [List.getElem?_map, List.getElem?_eq_getElem hlt2, hx]; rfl
      refine zI (x := ndT x) tab_ok rfl (by omega) (by simpa using hxe) rfl ?_
      repeat' (first|refine zS ?_|refine zR ?_|refine zE tab_ok rfl rfl ?_|refine zN ?_|(refine zG rfl rfl (fun _ => ?_) fun _ => ?_)<;>refine zE tab_ok rfl rfl ?_|(refine zC rfl (fun _ => ?_) fun _ => ?_)<;>try (rename_i h; cases h; done)|refine zB ?_|refine zK ?_|refine zZ ⟨_, rfl, ?_⟩)
      · rename_i h3
        have : asksS s j = true := by
          unfold asksS asksN
          refine List.any_eq_true.2 ⟨r, hr ▸ List.getElem_mem hlt, List.any_eq_true.2 ⟨x, hx ▸ List.getElem_mem hlt2, h3⟩⟩
        rw [this]
      · rename_i h3
        refine ⟨n + 1, ⟨by omega, ?_⟩, by omega, Sub.app (l := [_, _, _, _, _, _, _, _]) (H := []) ⟨rfl, rfl, rfl, rfl, rfl, rfl, rfl, congrArg some (wrapz (by omega) (by omega) (by omega)), trivial⟩ (fun κ v h => nomatch h)⟩
        rw [List.take_succ_eq_append_getElem hlt2, List.any_append, hp2, hx]
        simp [h3]
    · rename_i h2
      have hge : r.needs.length ≤ n := by simp only [List.length_map, decide_eq_false_iff_not] at h2; omega
      rw [List.take_of_length_le hge] at hp2
      refine Tr.exit ?_
      repeat' (first|refine zS ?_|refine zR ?_|refine zE tab_ok rfl rfl ?_|refine zN ?_|(refine zG rfl rfl (fun _ => ?_) fun _ => ?_)<;>refine zE tab_ok rfl rfl ?_|(refine zC rfl (fun _ => ?_) fun _ => ?_)<;>try (rename_i h; cases h; done)|refine zB ?_|refine zK ?_|refine zZ ⟨_, rfl, ?_⟩)
      refine ⟨k + 1, ⟨by omega, ?_⟩, by omega, Sub.app (l := [_, _, _, _, _]) (H := []) ⟨rfl, rfl, rfl, rfl, congrArg some (wrapz (by omega) (by omega) (by omega)), trivial⟩ (fun κ v h => nomatch h)⟩
      rw [List.take_succ_eq_append_getElem hlt, List.any_append, hp, hr]
      simp only [List.any_cons, List.any_nil, Bool.or_false, Bool.false_or]
      exact hp2
  · have hge : s.rels.length ≤ k := by
      have h : decide ((k : Int) < ((s.rels.map rlsT).length : Int)) = false := h
      simp only [List.length_map, decide_eq_false_iff_not] at h; omega
    rw [List.take_of_length_le hge] at hp
    refine Tr.exit ?_
    repeat' (first|refine zS ?_|refine zR ?_|refine zE tab_ok rfl rfl ?_|refine zN ?_|(refine zG rfl rfl (fun _ => ?_) fun _ => ?_)<;>refine zE tab_ok rfl rfl ?_|(refine zC rfl (fun _ => ?_) fun _ => ?_)<;>try (rename_i h; cases h; done)|refine zB ?_|refine zK ?_|refine zZ ⟨_, rfl, ?_⟩)
    show bool _ = bool _
    rw [show asksS s j = false from hp]
end Go.Lg.Tryz

set_option linter.unusedVariables false
set_option linter.unusedSimpArgs false
namespace Go.Lg.Tryz
open Go Go.Proofs Go.RowKit Go.Lib Go.Lg.Sem
theorem pair_ok (c : Ctl) (i j : Int) : Fn Tryz.prog Gw 38 [.tr (ctlT c), int i, int j] [] (· = bool (pairB c i j)) := by
  have e : pairB c i j = (decide (0 ≤ i) && decide (0 ≤ j) && decide (i < ((c.map svcT).length : Int)) && decide (j < ((c.map svcT).length : Int)) && (i != j)) := by unfold pairB; rw [List.length_map]
  rw [e]
  refine Fn.of tab_ok Tryz.func38 rfl (by decide) (by simp [Tryz.f38]) rfl (fun κ v h => by cases h) Gw.below ?_
  repeat' (first|refine zS ?_|refine zR ?_|refine zE tab_ok rfl rfl ?_|refine zN ?_|(refine zG rfl rfl (fun _ => ?_) fun _ => ?_)<;>refine zE tab_ok rfl rfl ?_|(refine zC rfl (fun _ => ?_) fun _ => ?_)<;>try (rename_i h; cases h; done)|refine zB ?_|refine zK ?_|refine zZ ⟨_, rfl, ?_⟩)
  all_goals
    refine (?_ : bool _ = bool _)
    congr 3
    simp_all
  all_goals (intros; omega)
def Ctl.ok (c : Ctl) : Prop := c.length ≤ 1000000 ∧ ∀ s, s ∈ c → s.rels.length ≤ 1000000 ∧ ∀ r, r ∈ s.rels → r.needs.length ≤ 1000000 ∧ r.v.ok ∧ ∀ n, n ∈ r.needs → n.r.ok ∧ n.r.length ≤ 1000000
theorem ctl_ok {c : Ctl} (h : smallC c = true) : Ctl.ok c := by
  obtain ⟨h1, h2⟩ := smallC_of h
  refine ⟨by omega, fun s hs => ?_⟩
  obtain ⟨h3, h4, h5⟩ := Svc.of_small (h2 s hs)
  refine ⟨by omega, fun r hr => ?_⟩
  obtain ⟨h6, h7, h8⟩ := Rls.of_small (h5 r hr)
  refine ⟨by omega, Rls.ok_of (h5 r hr), fun n hn => ?_⟩
  obtain ⟨h9, h10, _⟩ := Nd.of_small (h8 n hn)
  exact ⟨h9, by omega⟩
theorem asks_ok' {c : Ctl} (h : Ctl.ok c) (i j : Int) (h0 : 0 ≤ i) (h1 : i < c.length) : Fn Tryz.prog Gw 36 [.tr (ctlT c), int i, int j] [] (· = bool (asks c i.toNat j)) := by
  have hlt : i.toNat < c.length := by omega
  have := asks_ok c i.toNat j c[i.toNat] (List.getElem?_eq_getElem hlt) (by have := (h.2 _ (List.getElem_mem hlt)).1; omega) (fun r hr => by have := ((h.2 _ (List.getElem_mem hlt)).2 r hr).1; omega)
  rwa [show ((i.toNat : Nat) : Int) = i by omega] at this
theorem refAsks_ok' {c : Ctl} (h : Ctl.ok c) (i j : Int) (h0 : 0 ≤ i) (h1 : i < c.length) : Fn Tryz.prog Gw 37 [.tr (ctlT c), int i, int j] [] (· = bool (asks c i.toNat j)) := by
  have hlt : i.toNat < c.length := by omega
  have := refAsks_ok c i.toNat j c[i.toNat] (List.getElem?_eq_getElem hlt) (by have := (h.2 _ (List.getElem_mem hlt)).1; omega) (fun r hr => by have := ((h.2 _ (List.getElem_mem hlt)).2 r hr).1; omega)
  rwa [show ((i.toNat : Nat) : Int) = i by omega] at this
theorem Linked_ok {c : Ctl} (h : Ctl.ok c) (i j : Int) : Fn Tryz.prog Gw 17 [.tr (ctlT c), int i, int j] [] (· = bool (linkedC c i j)) := by
  have hp := pair_ok c i j
  unfold linkedC
  cases e : pairB c i j
  · rw [e] at hp
    refine Fn.of tab_ok Tryz.func17 rfl (by decide) (by simp [Tryz.f17]) rfl (fun κ v h => by cases h) Gw.below ?_
    repeat' (first|refine zS ?_|refine zR ?_|refine zE tab_ok rfl rfl ?_|refine zN ?_|(refine zG rfl rfl (fun _ => ?_) fun _ => ?_)<;>refine zE tab_ok rfl rfl ?_|(refine zC rfl (fun _ => ?_) fun _ => ?_)<;>try (rename_i h; cases h; done)|refine zB ?_|refine zK ?_|refine zZ ⟨_, rfl, ?_⟩)
    refine Sq.callv rfl (hp) ?_
    repeat' (first|refine zS ?_|refine zR ?_|refine zE tab_ok rfl rfl ?_|refine zN ?_|(refine zG rfl rfl (fun _ => ?_) fun _ => ?_)<;>refine zE tab_ok rfl rfl ?_|(refine zC rfl (fun _ => ?_) fun _ => ?_)<;>try (rename_i h; cases h; done)|refine zB ?_|refine zK ?_|refine zZ ⟨_, rfl, ?_⟩)
    rfl
  · rw [e] at hp
    obtain ⟨h1, h2, h3, h4, h5⟩ := pairB_of e
    have a1 := asks_ok' h i j h1 h3
    have a2 := asks_ok' h j i h2 h4
    generalize asks c i.toNat j = b1 at *
    generalize asks c j.toNat i = b2 at *
    refine Fn.of tab_ok Tryz.func17 rfl (by decide) (by simp [Tryz.f17]) rfl (fun κ v h => by cases h) Gw.below ?_
    repeat' (first|refine zS ?_|refine zR ?_|refine zE tab_ok rfl rfl ?_|refine zN ?_|(refine zG rfl rfl (fun _ => ?_) fun _ => ?_)<;>refine zE tab_ok rfl rfl ?_|(refine zC rfl (fun _ => ?_) fun _ => ?_)<;>try (rename_i h; cases h; done)|refine zB ?_|refine zK ?_|refine zZ ⟨_, rfl, ?_⟩)
    refine Sq.callv rfl (hp) ?_
    repeat' (first|refine zS ?_|refine zR ?_|refine zE tab_ok rfl rfl ?_|refine zN ?_|(refine zG rfl rfl (fun _ => ?_) fun _ => ?_)<;>refine zE tab_ok rfl rfl ?_|(refine zC rfl (fun _ => ?_) fun _ => ?_)<;>try (rename_i h; cases h; done)|refine zB ?_|refine zK ?_|refine zZ ⟨_, rfl, ?_⟩)
    cases b1
    · refine Sq.callv rfl (a1) ?_
      repeat' (first|refine zS ?_|refine zR ?_|refine zE tab_ok rfl rfl ?_|refine zN ?_|(refine zG rfl rfl (fun _ => ?_) fun _ => ?_)<;>refine zE tab_ok rfl rfl ?_|(refine zC rfl (fun _ => ?_) fun _ => ?_)<;>try (rename_i h; cases h; done)|refine zB ?_|refine zK ?_|refine zZ ⟨_, rfl, ?_⟩)
      refine Sq.callv rfl (a2) ?_
      repeat' (first|refine zS ?_|refine zR ?_|refine zE tab_ok rfl rfl ?_|refine zN ?_|(refine zG rfl rfl (fun _ => ?_) fun _ => ?_)<;>refine zE tab_ok rfl rfl ?_|(refine zC rfl (fun _ => ?_) fun _ => ?_)<;>try (rename_i h; cases h; done)|refine zB ?_|refine zK ?_|refine zZ ⟨_, rfl, ?_⟩)
      rfl
    · refine Sq.callv rfl (a1) ?_
      repeat' (first|refine zS ?_|refine zR ?_|refine zE tab_ok rfl rfl ?_|refine zN ?_|(refine zG rfl rfl (fun _ => ?_) fun _ => ?_)<;>refine zE tab_ok rfl rfl ?_|(refine zC rfl (fun _ => ?_) fun _ => ?_)<;>try (rename_i h; cases h; done)|refine zB ?_|refine zK ?_|refine zZ ⟨_, rfl, ?_⟩)
      rfl
abbrev metH (j : Int) (v : Ver) : Store := [(.e 0, .blk 3 [int j]), (.e 1, .blk 75 [int v.a, int v.b, int v.c, str v.p])]
theorem lk2 {k1 k2 κ : Loc} {u1 u2 u : AV} (h : lk [(k1, u1), (k2, u2)] κ = some u) : (κ = k1 ∧ u = u1) ∨ (κ = k2 ∧ u = u2) := by
  rw [lk_cons] at h
  split at h
  · rename_i e; exact .inl ⟨e.symm, (Option.some.inj h).symm⟩
  · exact .inr (lk1 h)
theorem metH_e (j : Int) (v : Ver) : ∀ κ u, lk (metH j v) κ = some u → ∃ j, κ = .e j := fun κ u h => by
  rcases lk2 h with ⟨h, _⟩ | ⟨h, _⟩ <;> exact ⟨_, h⟩
theorem metH_r (j : Int) (v : Ver) : ∀ κ ty cells, lk (metH j v) κ = some (.blk ty cells) → ExtOnly cells := fun κ ty cells h => by
  rcases lk2 h with ⟨_, h2⟩ | ⟨_, h2⟩ <;> injection h2 with h3 h4 <;> subst h4 <;> intro x hx κ hr <;> simp only [List.mem_cons, List.not_mem_nil, or_false] at hx
  · subst hx; cases hr
  · rcases hx with rfl | rfl | rfl | rfl <;> cases hr
theorem ptr2_ext : ExtOnly [.ptr (.e 0) 0, .ptr (.e 1) 0] := fun x hx κ h => by
  simp only [List.mem_cons, List.not_mem_nil, or_false] at hx
  rcases hx with rfl | rfl <;> cases h <;> exact ⟨_, rfl⟩
theorem met1_ok (j : Int) (v : Ver) (hv : v.ok) (n : Nd) (hn : n.r.ok) (hl : n.r.length ≤ 1073741824) : Fn Tryz.prog Gw 70 [.tr (ndT n), .ptr (.e 0) 0, .ptr (.e 1) 0] (metH j v) (· = bool (n.s == j && !(hasR n.r v))) := by
  have hr := hasR_ok n.r v hn hl hv
  refine Fn.of tab_ok Tryz.func70 rfl (by decide) (by simp [Tryz.f70]) rfl (fun κ u h => by obtain ⟨k, rfl⟩ := metH_e j v κ u h; rfl) Gw.below ?_
  repeat' (first|refine zS ?_|refine zR ?_|refine zE tab_ok rfl rfl ?_|refine zN ?_|(refine zG rfl rfl (fun _ => ?_) fun _ => ?_)<;>refine zE tab_ok rfl rfl ?_|(refine zC rfl (fun _ => ?_) fun _ => ?_)<;>try (rename_i h; cases h; done)|refine zB ?_|refine zK ?_|refine zZ ⟨_, rfl, ?_⟩)
  · rename_i h
    refine Sq.callv rfl (hr) ?_
    repeat' (first|refine zS ?_|refine zR ?_|refine zE tab_ok rfl rfl ?_|refine zN ?_|(refine zG rfl rfl (fun _ => ?_) fun _ => ?_)<;>refine zE tab_ok rfl rfl ?_|(refine zC rfl (fun _ => ?_) fun _ => ?_)<;>try (rename_i h; cases h; done)|refine zB ?_|refine zK ?_|refine zZ ⟨_, rfl, ?_⟩)
    rw [h]; rfl
  · rename_i h
    rw [h]; rfl
theorem met_ok (r : Rls) (j : Int) (v : Ver) (hv : v.ok) (hn : r.needs.length ≤ 1000000) (hm : ∀ n, n ∈ r.needs → n.r.ok ∧ n.r.length ≤ 1000000) : Fn Tryz.prog Gw 43 [.tr (rlsT r), int j, .tr (Ver.t v)] [] (· = bool (metB r j v)) := by
  refine Fn.of tab_ok Tryz.func43 rfl (by decide) (by simp [Tryz.f43]) rfl (fun κ v h => by cases h) Gw.below ?_
  repeat' (first|refine zS ?_|refine zR ?_|refine zE tab_ok rfl rfl ?_|refine zN ?_|(refine zG rfl rfl (fun _ => ?_) fun _ => ?_)<;>refine zE tab_ok rfl rfl ?_|(refine zC rfl (fun _ => ?_) fun _ => ?_)<;>try (rename_i h; cases h; done)|refine zB ?_|refine zK ?_|refine zZ ⟨_, rfl, ?_⟩)
  refine Sq.callv rfl (containsNd 70 [.ptr (.e 0) 0, .ptr (.e 1) 0] (metH j v) ndT (fun n => n.s == j && !(hasR n.r v)) ptr2_ext (metH_e j v) (metH_r j v) r.needs (fun n hx => ⟨nd_el n, met1_ok j v hv n (hm n hx).1 (by have := (hm n hx).2; omega)⟩) (by omega)) ?_
  repeat' (first|refine zS ?_|refine zR ?_|refine zE tab_ok rfl rfl ?_|refine zN ?_|(refine zG rfl rfl (fun _ => ?_) fun _ => ?_)<;>refine zE tab_ok rfl rfl ?_|(refine zC rfl (fun _ => ?_) fun _ => ?_)<;>try (rename_i h; cases h; done)|refine zB ?_|refine zK ?_|refine zZ ⟨_, rfl, ?_⟩)
  rfl
end Go.Lg.Tryz

set_option linter.unusedVariables false
set_option linter.unusedSimpArgs false
namespace Go.Lg.Tryz
open Go Go.Proofs Go.RowKit Go.Lib Go.Lg.Sem
theorem met_ok' {c : Ctl} (h : Ctl.ok c) {s u : Svc} (hs : s ∈ c) (hu : u ∈ c) {a b : Rls} (ha : a ∈ s.rels) (hb : b ∈ u.rels) (j : Int) : Fn Tryz.prog Gw 43 [.tr (rlsT a), int j, .tr (Ver.t b.v)] [] (· = bool (metB a j b.v)) :=
  met_ok a j b.v ((h.2 u hu).2 b hb).2.1 ((h.2 s hs).2 a ha).1 ((h.2 s hs).2 a ha).2.2
theorem relAt_neg {c : Ctl} {i v : Int} (h : v < 0) : relAt c i v = none := by
  unfold relAt
  split
  · rw [if_neg (by omega)]
  · rfl
theorem relAt_pos {c : Ctl} {i v : Int} {s : Svc} (hs : c[i.toNat]? = some s) (h : 0 ≤ v) : relAt c i v = s.rels[v.toNat]? := by
  unfold relAt; rw [hs]; simp only; rw [if_pos h]
theorem fits_none {c : Ctl} {i v j w : Int} (h : relAt c i v = none ∨ relAt c j w = none) : fitsB c i v j w = false := by
  unfold fitsB
  rcases h with h | h
  · rw [h]; simp
  · rw [h]; cases relAt c i v <;> simp
theorem Fits_ok {c : Ctl} (h : Ctl.ok c) (i v j w : Int) : Fn Tryz.prog Gw 20 [.tr (ctlT c), int i, int v, int j, int w] [] (· = bool (fitsB c i v j w)) := by
  have hp := pair_ok c i j
  cases e : pairB c i j
  · rw [e] at hp
    have : fitsB c i v j w = false := by unfold fitsB; rw [e]; rfl
    rw [this]
    refine Fn.of tab_ok Tryz.func20 rfl (by decide) (by simp [Tryz.f20]) rfl (fun κ v h => by cases h) Gw.below ?_
    repeat' (first|refine zS ?_|refine zR ?_|refine zE tab_ok rfl rfl ?_|refine zN ?_|(refine zG rfl rfl (fun _ => ?_) fun _ => ?_)<;>refine zE tab_ok rfl rfl ?_|(refine zC rfl (fun _ => ?_) fun _ => ?_)<;>try (rename_i h; cases h; done)|refine zB ?_|refine zK ?_|refine zZ ⟨_, rfl, ?_⟩)
    refine Sq.callv rfl (hp) ?_
    repeat' (first|refine zS ?_|refine zR ?_|refine zE tab_ok rfl rfl ?_|refine zN ?_|(refine zG rfl rfl (fun _ => ?_) fun _ => ?_)<;>refine zE tab_ok rfl rfl ?_|(refine zC rfl (fun _ => ?_) fun _ => ?_)<;>try (rename_i h; cases h; done)|refine zB ?_|refine zK ?_|refine zZ ⟨_, rfl, ?_⟩)
    rfl
  · rw [e] at hp
    obtain ⟨h1, h2, h3, h4, h5⟩ := pairB_of e
    obtain ⟨s, hs⟩ : ∃ s, c[i.toNat]? = some s := ⟨_, List.getElem?_eq_getElem (by omega)⟩
    obtain ⟨u, hu⟩ : ∃ u, c[j.toNat]? = some u := ⟨_, List.getElem?_eq_getElem (by omega)⟩
    have hsm : s ∈ c := List.mem_of_getElem? hs
    have hum : u ∈ c := List.mem_of_getElem? hu
    have hse : (c.map svcT)[i.toNat]? = some (svcT s) := by simp [hs]
    have hue : (c.map svcT)[j.toNat]? = some (svcT u) := by simp [hu]
    refine Fn.of tab_ok Tryz.func20 rfl (by decide) (by simp [Tryz.f20]) rfl (fun κ v h => by cases h) Gw.below ?_
    repeat' (first|refine zS ?_|refine zR ?_|refine zE tab_ok rfl rfl ?_|refine zN ?_|(refine zG rfl rfl (fun _ => ?_) fun _ => ?_)<;>refine zE tab_ok rfl rfl ?_|(refine zC rfl (fun _ => ?_) fun _ => ?_)<;>try (rename_i h; cases h; done)|refine zB ?_|refine zK ?_|refine zZ ⟨_, rfl, ?_⟩)
    refine Sq.callv rfl (hp) ?_
    repeat' (first|refine zS ?_|refine zR ?_|refine zE tab_ok rfl rfl ?_|refine zN ?_|(refine zG rfl rfl (fun _ => ?_) fun _ => ?_)<;>refine zE tab_ok rfl rfl ?_|(refine zC rfl (fun _ => ?_) fun _ => ?_)<;>try (rename_i h; cases h; done)|refine zB ?_|refine zK ?_|refine zZ ⟨_, rfl, ?_⟩)
    · rename_i hv _
      have hv := of_decide_eq_true hv
      show bool _ = bool _
      rw [fits_none (.inl (relAt_neg hv))]
    · rename_i hw _
      have hw := of_decide_eq_true hw
      show bool _ = bool _
      rw [fits_none (.inr (relAt_neg hw))]
    rename_i hv hw
    have hv := of_decide_eq_false hv
    have hw := of_decide_eq_false hw
    refine zI (x := svcT s) tab_ok rfl (by omega) (hse) rfl ?_
    repeat' (first|refine zS ?_|refine zR ?_|refine zE tab_ok rfl rfl ?_|refine zN ?_|(refine zG rfl rfl (fun _ => ?_) fun _ => ?_)<;>refine zE tab_ok rfl rfl ?_|(refine zC rfl (fun _ => ?_) fun _ => ?_)<;>try (rename_i h; cases h; done)|refine zB ?_|refine zK ?_|refine zZ ⟨_, rfl, ?_⟩)
    · rename_i hv2 _
      have hv2 : ((s.rels.map rlsT).length : Int) ≤ v := of_decide_eq_true hv2
      rw [List.length_map] at hv2
      show bool _ = bool _
      rw [fits_none (.inl (by rw [relAt_pos hs (by omega)]; exact List.getElem?_eq_none (by omega)))]
    rename_i hv2
    have hv2 : ¬ ((s.rels.map rlsT).length : Int) ≤ v := of_decide_eq_false hv2
    rw [List.length_map] at hv2
    refine zI (x := svcT u) tab_ok rfl (by omega) (hue) rfl ?_
    repeat' (first|refine zS ?_|refine zR ?_|refine zE tab_ok rfl rfl ?_|refine zN ?_|(refine zG rfl rfl (fun _ => ?_) fun _ => ?_)<;>refine zE tab_ok rfl rfl ?_|(refine zC rfl (fun _ => ?_) fun _ => ?_)<;>try (rename_i h; cases h; done)|refine zB ?_|refine zK ?_|refine zZ ⟨_, rfl, ?_⟩)
    · rename_i hw2 
      have hw2 : ((u.rels.map rlsT).length : Int) ≤ w := of_decide_eq_true hw2
      rw [List.length_map] at hw2
      show bool _ = bool _
      rw [fits_none (.inr (by rw [relAt_pos hu (by omega)]; exact List.getElem?_eq_none (by omega)))]
    rename_i hw2
    have hw2 : ¬ ((u.rels.map rlsT).length : Int) ≤ w := of_decide_eq_false hw2
    rw [List.length_map] at hw2
    obtain ⟨a, ha⟩ : ∃ a, s.rels[v.toNat]? = some a := ⟨_, List.getElem?_eq_getElem (by omega)⟩
    obtain ⟨b, hb⟩ : ∃ b, u.rels[w.toNat]? = some b := ⟨_, List.getElem?_eq_getElem (by omega)⟩
    have hae : (s.rels.map rlsT)[v.toNat]? = some (rlsT a) := by simp [ha]
    have hbe : (u.rels.map rlsT)[w.toNat]? = some (rlsT b) := by simp [hb]
    have hF : fitsB c i v j w = (metB a j b.v && metB b i a.v) := by unfold fitsB; rw [e, relAt_pos hs (by omega), relAt_pos hu (by omega), ha, hb]; rfl
    rw [hF]
    have m1 := met_ok' h hsm hum (List.mem_of_getElem? ha) (List.mem_of_getElem? hb) j
    have m2 := met_ok' h hum hsm (List.mem_of_getElem? hb) (List.mem_of_getElem? ha) i
    generalize metB a j b.v = b1 at *
    generalize metB b i a.v = b2 at *
    refine Tr.drawn ( zD tab_ok rfl rfl <| zD tab_ok rfl rfl <| zD tab_ok rfl rfl <| zO rfl (fun q K hK => zI (x := svcT s) tab_ok rfl (by omega) (hse) rfl (zN hK)) <| zD tab_ok rfl rfl <| zD tab_ok rfl rfl <| zD tab_ok rfl rfl <| zO rfl (fun q K hK => zI (x := rlsT a) tab_ok rfl (by omega) (hae) rfl (zN hK)) <| zD tab_ok rfl rfl <| zD tab_ok rfl rfl <| zD tab_ok rfl rfl <| zD tab_ok rfl rfl <| zO rfl (fun q K hK => zI (x := svcT u) tab_ok rfl (by omega) (hue) rfl (zN hK)) <| zD tab_ok rfl rfl <| zD tab_ok rfl rfl <| zD tab_ok rfl rfl <| zO rfl (fun q K hK => zI (x := rlsT b) tab_ok rfl (by omega) (hbe) rfl (zN hK)) <| zD tab_ok rfl rfl <| zD tab_ok rfl rfl <| zD tab_ok rfl rfl <| zD tab_ok rfl rfl <| zD tab_ok rfl rfl <| DSq.nil _) mix_ok rfl ?_
    repeat' (first|refine zS ?_|refine zR ?_|refine zE tab_ok rfl rfl ?_|refine zN ?_|(refine zG rfl rfl (fun _ => ?_) fun _ => ?_)<;>refine zE tab_ok rfl rfl ?_|(refine zC rfl (fun _ => ?_) fun _ => ?_)<;>try (rename_i h; cases h; done)|refine zB ?_|refine zK ?_|refine zZ ⟨_, rfl, ?_⟩)
    cases b1
    · refine Sq.callv rfl (m1) ?_
      repeat' (first|refine zS ?_|refine zR ?_|refine zE tab_ok rfl rfl ?_|refine zN ?_|(refine zG rfl rfl (fun _ => ?_) fun _ => ?_)<;>refine zE tab_ok rfl rfl ?_|(refine zC rfl (fun _ => ?_) fun _ => ?_)<;>try (rename_i h; cases h; done)|refine zB ?_|refine zK ?_|refine zZ ⟨_, rfl, ?_⟩)
      rfl
    · refine Sq.callv rfl (m1) ?_
      repeat' (first|refine zS ?_|refine zR ?_|refine zE tab_ok rfl rfl ?_|refine zN ?_|(refine zG rfl rfl (fun _ => ?_) fun _ => ?_)<;>refine zE tab_ok rfl rfl ?_|(refine zC rfl (fun _ => ?_) fun _ => ?_)<;>try (rename_i h; cases h; done)|refine zB ?_|refine zK ?_|refine zZ ⟨_, rfl, ?_⟩)
      refine Sq.callv rfl (m2) ?_
      repeat' (first|refine zS ?_|refine zR ?_|refine zE tab_ok rfl rfl ?_|refine zN ?_|(refine zG rfl rfl (fun _ => ?_) fun _ => ?_)<;>refine zE tab_ok rfl rfl ?_|(refine zC rfl (fun _ => ?_) fun _ => ?_)<;>try (rename_i h; cases h; done)|refine zB ?_|refine zK ?_|refine zZ ⟨_, rfl, ?_⟩)
      rfl
end Go.Lg.Tryz

set_option linter.unusedVariables false
set_option linter.unusedSimpArgs false
namespace Go.Lg.Tryz
open Go Go.Proofs Go.RowKit Go.Lib Go.Lg.Sem
def MadeR (r : Rng) (x : AV) : Prop := ∃ q : Rng, x = .tup [rngArg q, bool (plainR 12 r)] ∧ (plainR 12 r = true → q = r)
theorem madeRange_ok (r : Rng) : Fn Tryz.prog Gw 30 [.tr (rngT r)] [] (MadeR r) := by
  refine Fn.of tab_ok Tryz.func30 rfl (by decide) (by simp [Tryz.f30]) rfl (fun κ v h => by cases h) Gw.below ?_
  repeat' (first|refine zS ?_|refine zR ?_|refine zE tab_ok rfl rfl ?_|refine zN ?_|(refine zG rfl rfl (fun _ => ?_) fun _ => ?_)<;>refine zE tab_ok rfl rfl ?_|(refine zC rfl (fun _ => ?_) fun _ => ?_)<;>try (rename_i h; cases h; done)|refine zB ?_|refine zK ?_|refine zZ ⟨_, rfl, ?_⟩)
  · rename_i h
    have : plainR 12 r = false := by
      simp only [List.length_map, decide_eq_true_eq] at h
      unfold plainR; rw [decide_eq_false (by omega), Bool.false_and]
    exact ⟨[], by rw [this]; rfl, by rw [this]; intro h; cases h⟩
  · rename_i h
    have hz : plainR 12 r = r.all (plainL 12) := by
      simp only [List.length_map, decide_eq_false_iff_not] at h
      unfold plainR; rw [decide_eq_true (by omega), Bool.true_and]
    have hlen : r.length ≤ 12 := by simp only [List.length_map, decide_eq_false_iff_not] at h; omega
    refine Tr.loopS (fun i : Nat => [(.s 2, .ptr (.l 2) 0), (.l 2, .blk 93 [.own 119 []]), (.s 4, .ptr (.l 4) 0), (.l 4, .blk 93 [.own 119 ((r.take i).map cmpsT)]), (.s 16, .tr (.ls (r.map cmpsT))), (.s 17, int (r.map cmpsT).length), (.s 18, int i)]) (fun i => r.length - i)
      (fun i => i ≤ r.length ∧ (r.take i).all (plainL 12) = true)
      0 ⟨by omega, by simp⟩ (Sub.app (l := [_, _, _, _, _, _, _]) (H := []) ⟨rfl, rfl, rfl, rfl, rfl, rfl, rfl, trivial⟩ (fun κ v h => nomatch h)) ?_
    rintro i ⟨hi, hp⟩
    have bad : plainR 12 r = false → MadeR r (.tup [rngArg (r.take i), bool false]) := fun h => ⟨r.take i, by rw [h], by rw [h]; intro h; cases h⟩
    repeat' (first|refine zS ?_|refine zR ?_|refine zE tab_ok rfl rfl ?_|refine zN ?_|(refine zG rfl rfl (fun _ => ?_) fun _ => ?_)<;>refine zE tab_ok rfl rfl ?_|(refine zC rfl (fun _ => ?_) fun _ => ?_)<;>try (rename_i h; cases h; done)|refine zB ?_|refine zK ?_|refine zZ ⟨_, rfl, ?_⟩)
    · rename_i h
      have hlt : i < r.length := by simp only [List.length_map, decide_eq_true_eq] at h; omega
      have bad2 : plainL 12 r[i] = false → plainR 12 r = false := fun hb => by
        rw [hz, ← Bool.not_eq_true, List.all_eq_true]
        intro h
        rw [h _ (List.getElem_mem hlt)] at hb; cases hb
      obtain ⟨l, hl⟩ : ∃ l, r[i] = l := ⟨_, rfl⟩
      have he : (r.map cmpsT)[i]? = some (cmpsT l) := by rw [List.getElem?_map, List.getElem?_eq_getElem hlt, hl]; rfl
      rw [hl] at bad2
      refine zI (x := cmpsT l) tab_ok rfl (by omega) (by simpa using he) rfl ?_
      repeat' (first|refine zS ?_|refine zR ?_|refine zE tab_ok rfl rfl ?_|refine zN ?_|(refine zG rfl rfl (fun _ => ?_) fun _ => ?_)<;>refine zE tab_ok rfl rfl ?_|(refine zC rfl (fun _ => ?_) fun _ => ?_)<;>try (rename_i h; cases h; done)|refine zB ?_|refine zK ?_|refine zZ ⟨_, rfl, ?_⟩)
      · rename_i h
        exact bad (bad2 (by simp only [List.length_map, decide_eq_true_eq] at h; unfold plainL; rw [decide_eq_false (by omega), Bool.false_and]))
      · rename_i h
        have hz2 : plainL 12 l = l.all plainC := by
          simp only [List.length_map, decide_eq_false_iff_not] at h
          unfold plainL; rw [decide_eq_true (by omega), Bool.true_and]
        have hlen2 : l.length ≤ 12 := by simp only [List.length_map, decide_eq_false_iff_not] at h; omega
        refine Tr.loopS (fun k : Nat => [(.s 2, .ptr (.l 2) 0), (.l 2, .blk 93 [.own 119 []]), (.s 4, .ptr (.l 4) 0), (.l 4, .blk 93 [.own 119 ((r.take i).map cmpsT)]), (.s 16, .tr (.ls (r.map cmpsT))), (.s 17, int (r.map cmpsT).length), (.s 18, int i),
            (.s 7, .own 121 ((l.take k).map Cmp.t)), (.s 26, .tr (.ls (l.map Cmp.t))), (.s 27, int (l.map Cmp.t).length), (.s 28, int k)]) (fun k => l.length - k)
          (fun k => k ≤ l.length ∧ (l.take k).all plainC = true)
          0 ⟨by omega, by simp⟩ (Sub.app (l := [_, _, _, _, _, _, _, _, _, _, _]) (H := []) ⟨rfl, rfl, rfl, rfl, rfl, rfl, rfl, rfl, rfl, rfl, rfl, trivial⟩ (fun κ v h => nomatch h)) ?_
        rintro k ⟨hk, hq⟩
        repeat' (first|refine zS ?_|refine zR ?_|refine zE tab_ok rfl rfl ?_|refine zN ?_|(refine zG rfl rfl (fun _ => ?_) fun _ => ?_)<;>refine zE tab_ok rfl rfl ?_|(refine zC rfl (fun _ => ?_) fun _ => ?_)<;>try (rename_i h; cases h; done)|refine zB ?_|refine zK ?_|refine zZ ⟨_, rfl, ?_⟩)
        · rename_i h5
          have hk2 : k < l.length := by simp only [List.length_map, decide_eq_true_eq] at h5; omega
          obtain ⟨c, hc⟩ : ∃ c, l[k] = c := ⟨_, rfl⟩
          have hcm : c ∈ l := hc ▸ List.getElem_mem hk2
          have hce : (l.map Cmp.t)[k]? = some (Cmp.t c) := by rw [List.getElem?_map, List.getElem?_eq_getElem hk2, hc]; rfl
          refine zI (x := Cmp.t c) tab_ok rfl (by omega) (by simpa using hce) rfl ?_
          repeat' (first|refine zS ?_|refine zR ?_|refine zE tab_ok rfl rfl ?_|refine zN ?_|(refine zG rfl rfl (fun _ => ?_) fun _ => ?_)<;>refine zE tab_ok rfl rfl ?_|(refine zC rfl (fun _ => ?_) fun _ => ?_)<;>try (rename_i h; cases h; done)|refine zB ?_|refine zK ?_|refine zZ ⟨_, rfl, ?_⟩)
          all_goals rename_i h6
          · refine bad (bad2 ?_)
            have hb : plainC c = false := by simp only [decide_eq_true_eq] at h6; unfold plainC; rw [decide_eq_false (by omega)]
            rw [hz2, ← Bool.not_eq_true, List.all_eq_true]
            intro h
            rw [h _ hcm] at hb; cases hb
          · have hb : plainC c = true := by simp only [decide_eq_false_iff_not] at h6; unfold plainC; rw [decide_eq_true (by omega)]
            refine Sq.append tab_ok rfl (by intro y hy; simp only [List.mem_singleton] at hy; subst hy; rfl) (by simp; omega) ?_
            repeat' (first|refine zS ?_|refine zR ?_|refine zE tab_ok rfl rfl ?_|refine zN ?_|(refine zG rfl rfl (fun _ => ?_) fun _ => ?_)<;>refine zE tab_ok rfl rfl ?_|(refine zC rfl (fun _ => ?_) fun _ => ?_)<;>try (rename_i h; cases h; done)|refine zB ?_|refine zK ?_|refine zZ ⟨_, rfl, ?_⟩)
            refine ⟨k + 1, ⟨by omega, ?_⟩, by omega, Sub.app (l := [_, _, _, _, _, _, _, _, _, _, _]) (H := []) ⟨rfl, rfl, rfl, rfl, rfl, rfl, rfl, congrArg some (congrArg (AV.own _) (by rw [List.take_succ_eq_append_getElem hk2, List.map_append, hc]; rfl)), rfl, rfl, congrArg some (wrapz (by omega) (by omega) (by omega)), trivial⟩ (fun κ v h => nomatch h)⟩
            rw [List.take_succ_eq_append_getElem hk2, List.all_append, hq, hc]; simp [hb]
        · rename_i h5
          have hk2 : l.length ≤ k := by simp only [List.length_map, decide_eq_false_iff_not] at h5; omega
          rw [List.take_of_length_le hk2] at hq ⊢
          refine Tr.exit ?_
          repeat' (first|refine zS ?_|refine zR ?_|refine zE tab_ok rfl rfl ?_|refine zN ?_|(refine zG rfl rfl (fun _ => ?_) fun _ => ?_)<;>refine zE tab_ok rfl rfl ?_|(refine zC rfl (fun _ => ?_) fun _ => ?_)<;>try (rename_i h; cases h; done)|refine zB ?_|refine zK ?_|refine zZ ⟨_, rfl, ?_⟩)
          refine Sq.append tab_ok rfl (by intro y hy; simp only [List.mem_singleton] at hy; subst hy; rfl) (by simp; omega) ?_
          repeat' (first|refine zS ?_|refine zR ?_|refine zE tab_ok rfl rfl ?_|refine zN ?_|(refine zG rfl rfl (fun _ => ?_) fun _ => ?_)<;>refine zE tab_ok rfl rfl ?_|(refine zC rfl (fun _ => ?_) fun _ => ?_)<;>try (rename_i h; cases h; done)|refine zB ?_|refine zK ?_|refine zZ ⟨_, rfl, ?_⟩)
          refine ⟨i + 1, ⟨by omega, ?_⟩, by omega, Sub.app (l := [_, _, _, _, _, _, _]) (H := []) ⟨rfl, rfl, rfl, congrArg some (congrArg (fun x => AV.blk _ [AV.own _ x]) (by rw [List.take_succ_eq_append_getElem hlt, List.map_append, hl]; rfl)), rfl, rfl, congrArg some (wrapz (by omega) (by omega) (by omega)), trivial⟩ (fun κ v h => nomatch h)⟩
          rw [List.take_succ_eq_append_getElem hlt, List.all_append, hp, hl]; simp [hz2, hq]
    · rename_i h
      have hge : r.length ≤ i := by simp only [List.length_map, decide_eq_false_iff_not] at h; omega
      rw [List.take_of_length_le hge] at hp ⊢
      refine Tr.exit ?_
      repeat' (first|refine zS ?_|refine zR ?_|refine zE tab_ok rfl rfl ?_|refine zN ?_|(refine zG rfl rfl (fun _ => ?_) fun _ => ?_)<;>refine zE tab_ok rfl rfl ?_|(refine zC rfl (fun _ => ?_) fun _ => ?_)<;>try (rename_i h; cases h; done)|refine zB ?_|refine zK ?_|refine zZ ⟨_, rfl, ?_⟩)
      exact ⟨r, by rw [hz, hp], fun _ => rfl⟩
end Go.Lg.Tryz

set_option linter.unusedVariables false
set_option linter.unusedSimpArgs false
namespace Go.Lg
open Go Go.RowKit
section
variable {P : Program} {G : Env} {n : Nat} {tab : Tab} {m : Store}
abbrev nilT : T := .sc (.slice none 0 0)
def nilN : AV → AV
  | .own _ [] => .tr nilT
  | v => v
theorem nilN_ok {w : World} {M : Nat → Nat → Prop} {Ow : Loc → Nat → Option Nat} {z : AV} {v : Value} (h : zOk z v = true) (hs : SRel P w M Ow z v none) : SRel P w M Ow (nilN z) v none := by
  unfold nilN
  split
  · unfold zOk at h
    split at h <;> first | contradiction | (rename_i e; cases e; done) | skip
    all_goals first
      | exact VRel.tr _ _ (.sc _ rfl)
      | (rename_i e; injection e)
      | (rename_i e _; injection e)
      | cases h
  · exact hs
theorem zsOk_at : ∀ {zs : List AV} {vs : List Value}, zsOk zs vs = true → ∀ (i : Nat) (z : AV) (v : Value), zs[i]? = some z → vs[i]? = some v → zOk z v = true
  | [], _, _, i, z, v, hz, _ => by simp at hz
  | z :: zs, [], h, _, _, _, _, hv => by simp at hv
  | z :: zs, v :: vs, h, i, z', v', hz, hv => by
    simp only [zsOk, Bool.and_eq_true] at h
    cases i with
    | zero => simp at hz hv; subst hz; subst hv; exact h.1
    | succ i => exact zsOk_at h.2 i z' v' (by simpa using hz) (by simpa using hv)
def evBuildN (tab : Tab) (m : Store) (d t : Nat) (parts : List (Nat × Operand)) : Option R := match tlk tab t with
  | some ⟨_, _, .struct fl, zs⟩ => fillK m (lnth fl) parts (zs.map nilN) [] fun cells rs => aggR d rs cells
  | _ => none
theorem evBuildN_ok {o : Oper} {d t : Nat} {r : R} {parts : Array (Nat × Operand)} (hT : TabOk P tab) (hd : d < n) (hdst : o.dst = some d) (hop : ∀ (ρ : Operand → Value), execOp ρ o = (do pure (.value (← Instr.build t (parts.map fun (i, x) => (i, ρ x)))))) (h : evBuildN tab m d t parts.toList = some r) : OSpec P n o m r := by
  unfold evBuildN at h
  split at h
  · rename_i sz by' fl zs ht
    obtain ⟨i, hi, _, _, _, ho, z, hz, hzs⟩ := hT.info ht
    obtain ⟨fs, hu, hfl, hall⟩ := hT.struct ht rfl
    obtain ⟨cells', rs', h1, h2, h3⟩ := fillK_eq h
    obtain ⟨v, rfl, h4⟩ := aggR_eq h1
    refine OSpec.val hd hdst (h2 trivial) fun m' hs Γ M Ow a w hr => ?_
    obtain ⟨z1, z2, z3, z4⟩ := zsOk_all hzs ho
    have hp : PFit P w M Ow (zs.map nilN) z.cells := ⟨by rw [List.length_map, z1]; simp, fun i u hu => z3 i u (by simpa using hu), fun i y u hy hu => by
      rw [List.getElem?_map] at hy
      obtain ⟨y0, hy0, rfl⟩ := Option.map_eq_some_iff.1 hy
      exact nilN_ok (zsOk_at hzs i y0 u hy0 (by simpa using hu)) (z4 w M Ow i y0 u hy0 (by simpa using hu))⟩
    obtain ⟨carr', e1, e2⟩ := (h3 m' hs).2 P Γ M Ow n a w hr _ hp
    refine ⟨.agg carr', ?_, h4 P w M Ow carr' e2⟩
    rw [hop]
    have hb : P.built t (parts.map fun (i, x) => (i, a.eval x)).toList = some carr' := by
      simp only [Program.built, hi, hu, hz, mapM_places hall]
      rw [← hfl]
      have : (fun i => lnth fl i) = (fun i => fl.toArray[i]?) := funext (lnth_eq fl)
      rw [Array.toList_map, ← e1]; congr 1; exact this.symm
    have := run_build (P := P) w t (parts.map fun (i, x) => (i, a.eval x)) carr' hb
    rw [Sem.run_bind, this]; rfl
  · cases h
def evBN (tab : Tab) (n : Nat) (ops : List Oper) (o : Oper) (m : Store) : Option R := match o.op, o.dst, gOk m ops o.guard with
  | .build t ps, some d, true => match Nat.blt d n with
    | true => evBuildN tab m d t ps.toList
    | false => none
  | _, _, _ => none
theorem Sq.buildN {ops l : List Oper} {o : Oper} {r : R} {K : Store → Prop} (hT : TabOk P tab) (h : evBN tab n ops o m = some r) (hf : (freshB r.1 m && pinB r.1 G.pins) = true) (k : Sq P G n ops l (r.2.2 ++ m) K) : Sq P G n ops (o :: l) m K := by
  obtain ⟨dst, op, type, pos, after, guard⟩ := o
  unfold evBN at h
  simp only at h
  split at h
  · rename_i t ps d hgd
    split at h
    · rename_i hlt
      exact Sq.spec hgd (evBuildN_ok (parts := ps) hT (Nat.lt_of_succ_le (Nat.le_of_ble_eq_true hlt)) rfl (fun ρ => rfl) h) hf k
    · cases h
  · cases h
theorem Rel.weak {Γ : Ctx} {M : Nat → Nat → Prop} {Ow : Loc → Nat → Option Nat} {a : Act} {w : World} (h : Rel P Γ M Ow n m a w) {κ : Loc} {v v' : AV} (hb : κ.isBlk = true) (hv : lk m κ = some v) (hw : BRel P w M Ow κ v → BRel P w M Ow κ v') : Rel P Γ M Ow n ((κ, v') :: m) a w := by
  refine { h with slot := fun t x hx => ?_, blk := fun κ' x hk hx => ?_ }
  · rw [lk_cons] at hx
    split at hx
    · rename_i e; subst e; cases hb
    · exact h.slot t x hx
  · rw [lk_cons] at hx
    split at hx
    · rename_i e
      subst e
      obtain rfl := Option.some.inj hx
      exact hw (h.blk κ v hb hv)
    · exact h.blk κ' x hk hx
theorem RelX.nilOwn (hT : TabOk P tab) {Γ : Ctx} {a : Act} {w : World} (h : RelX P Γ n m a w) (κ : Loc) (ty e : TypeId) (pre post : List AV) (hb : κ.isBlk = true) (hv : lk m κ = some (.blk ty (pre ++ .tr nilT :: post))) (he : (tlk tab e).isSome = true) :
    RelX P Γ n ((κ, .blk ty (pre ++ .own e [] :: post)) :: m) a w := by
  obtain ⟨M, Ow, hr⟩ := h
  refine ⟨M, Ow, hr.weak hb hv ?_⟩
  rintro ⟨ty', cells, b, cs, e1, h1, h2, h3, h4, h5, h6⟩
  injection e1 with e1 e2
  subst e1; subst e2
  obtain ⟨d, hd⟩ := Option.isSome_iff_exists.1 he
  obtain ⟨ie, hie, _⟩ := hT.info hd
  refine ⟨ty, _, b, cs, rfl, h1, h2, by rw [h3]; simp, h4, h5, fun i y v hy hvv => ?_⟩
  by_cases hi : i = pre.length
  · subst hi
    rw [List.getElem?_append_right (Nat.le_refl _)] at hy
    simp at hy
    subst hy
    have := h6 pre.length (.tr nilT) v (by rw [List.getElem?_append_right (Nat.le_refl _)]; simp) hvv
    have : VRel w M (fun κ => Ow κ 0) (.tr nilT) v := this
    cases this with
    | tr _ _ hh => cases hh with | sc _ _ => exact ⟨ie, hie, fun x hx => (nomatch hx), .inl ⟨rfl, none, rfl⟩⟩
  · refine h6 i y v ?_ hvv
    rcases Nat.lt_or_ge i pre.length with hl | hl
    · rw [List.getElem?_append_left hl] at hy ⊢; exact hy
    · rw [List.getElem?_append_right hl] at hy ⊢
      obtain ⟨j, hj⟩ : ∃ j, i - pre.length = j + 1 := ⟨i - pre.length - 1, by omega⟩
      rw [hj] at hy ⊢; simpa using hy
end
end Go.Lg

set_option linter.unusedVariables false
set_option linter.unusedSimpArgs false
namespace Go.Lg.Tryz
open Go Go.Proofs Go.RowKit Go.Lib Go.Lg.Sem
abbrev ctlArg (c : Ctl) : AV := .tr (ctlT c)
def MadeC (c : Ctl) (x : AV) : Prop := ∃ q : Ctl, x = .tup [ctlArg q, bool (smallC c)] ∧ (smallC c = true → q = c)
theorem small_no {c : Ctl} {s : Svc} (hs : s ∈ c) (h : s.small = false) : smallC c = false := by
  unfold smallC
  rw [Bool.and_eq_false_iff]; right
  rw [← Bool.not_eq_true, List.all_eq_true]
  intro hh; rw [hh s hs] at h; cases h
theorem svc_no {s : Svc} {r : Rls} (hs : r ∈ s.rels) (h : r.small = false) : s.small = false := by
  unfold Svc.small
  rw [Bool.and_eq_false_iff]; right
  rw [← Bool.not_eq_true, List.all_eq_true]
  intro hh; rw [hh r hs] at h; cases h
theorem rls_no {r : Rls} {n : Nd} (hs : n ∈ r.needs) (h : n.small = false) : r.small = false := by
  unfold Rls.small
  rw [Bool.and_eq_false_iff]; right
  rw [← Bool.not_eq_true, List.all_eq_true]
  intro hh; rw [hh n hs] at h; cases h
theorem all_snoc {α : Type} {p : α → Bool} {l : List α} {i : Nat} (hi : i < l.length) (h : (l.take i).all p = true) (h1 : p l[i] = true) : (l.take (i + 1)).all p = true := by
  rw [List.take_succ_eq_append_getElem hi, List.all_append, h]; simp [h1]
set_option maxRecDepth 8192 in
theorem madeCat_ok (c : Ctl) : Fn Tryz.prog Gw 11 [.tr (ctlT c)] [] (MadeC c) := by
  have bad : ∀ q : Ctl, smallC c = false → MadeC c (.tup [ctlArg q, bool false]) := fun q h => ⟨q, by rw [h], by rw [h]; intro h; cases h⟩
  refine Fn.of tab_ok Tryz.func11 rfl (by decide) (by simp [Tryz.f11]) rfl (fun κ v h => by cases h) Gw.below ?_
  repeat' (first|refine zS ?_|refine zR ?_|refine zE tab_ok rfl rfl ?_|refine zN ?_|(refine zG rfl rfl (fun _ => ?_) fun _ => ?_)<;>refine zE tab_ok rfl rfl ?_|(refine zC rfl (fun _ => ?_) fun _ => ?_)<;>try (rename_i h; cases h; done)|refine zB ?_|refine zK ?_|refine zZ ⟨_, rfl, ?_⟩)
  · rename_i h
    have h : decide (((c.map svcT).length : Int) > 16) = true := h
    simp only [List.length_map, decide_eq_true_eq] at h
    exact bad [] (by unfold smallC; rw [decide_eq_false (by omega)]; rfl)
  rename_i h0
  have h0 : decide (((c.map svcT).length : Int) > 16) = false := h0
  have hc16 : c.length ≤ 16 := by simp only [List.length_map, decide_eq_false_iff_not] at h0; omega
  refine Tr.loopS (fun i : Nat => [(.s 2, .ptr (.l 2) 0), (.l 2, .blk 28 [.own 52 []]), (.s 4, .ptr (.l 4) 0), (.l 4, .blk 28 [.own 52 ((c.take i).map svcT)]), (.s 21, .tr (.ls (c.map svcT))), (.s 22, int (c.map svcT).length), (.s 23, int i)]) (fun i => c.length - i)
    (fun i => i ≤ c.length ∧ (c.take i).all Svc.small = true)
    0 ⟨by omega, by simp⟩ (Sub.app (l := [_, _, _, _, _, _, _]) (H := []) ⟨rfl, rfl, rfl, rfl, rfl, rfl, rfl, trivial⟩ (fun κ v h => nomatch h)) ?_
  rintro i ⟨hi, hp⟩
  repeat' (first|refine zS ?_|refine zR ?_|refine zE tab_ok rfl rfl ?_|refine zN ?_|(refine zG rfl rfl (fun _ => ?_) fun _ => ?_)<;>refine zE tab_ok rfl rfl ?_|(refine zC rfl (fun _ => ?_) fun _ => ?_)<;>try (rename_i h; cases h; done)|refine zB ?_|refine zK ?_|refine zZ ⟨_, rfl, ?_⟩)
  · rename_i h
    have hlt : i < c.length := by simp only [List.length_map, decide_eq_true_eq] at h; omega
    obtain ⟨s, hs⟩ : ∃ s, c[i] = s := ⟨_, rfl⟩
    have hsm : s ∈ c := hs ▸ List.getElem_mem hlt
    have he : (c.map svcT)[((i : Nat) : Int).toNat]? = some (svcT s) := by rw [Int.toNat_natCast, List.getElem?_map, List.getElem?_eq_getElem hlt, hs]; rfl
    refine zI (x := svcT s) tab_ok rfl (by omega) (he) rfl ?_
    refine zE tab_ok rfl rfl ?_
    refine zE tab_ok rfl rfl ?_
    refine zE tab_ok rfl rfl ?_
    refine zN ?_
    refine zS ?_
    refine zR ?_
    refine zE tab_ok rfl rfl ?_
    refine zE tab_ok rfl rfl ?_
    refine Sq.buildN tab_ok rfl rfl ?_
    refine zE tab_ok rfl rfl ?_
    refine zE tab_ok rfl rfl ?_
    refine zN ?_
    refine Tr.turn (fun Γ a w h => RelX.nilOwn tab_ok h (.l 7) 52 90 [str s.name] [] rfl rfl rfl) ?_
    repeat' (first|refine zS ?_|refine zR ?_|refine zE tab_ok rfl rfl ?_|refine zN ?_|(refine zG rfl rfl (fun _ => ?_) fun _ => ?_)<;>refine zE tab_ok rfl rfl ?_|(refine zC rfl (fun _ => ?_) fun _ => ?_)<;>try (rename_i h; cases h; done)|refine zB ?_|refine zK ?_|refine zZ ⟨_, rfl, ?_⟩)
    · rename_i h1 _
      have h1 := of_decide_eq_true h1
      exact bad _ (small_no hsm (by unfold Svc.small; rw [decide_eq_false (by omega)]; rfl))
    · rename_i h1
      have h1 : decide (((s.rels.map rlsT).length : Int) > 16) = true := h1
      simp only [List.length_map, decide_eq_true_eq] at h1
      exact bad _ (small_no hsm (by unfold Svc.small; rw [decide_eq_false (p := s.rels.length ≤ 16) (by omega), Bool.and_false]; rfl))
    rename_i h1 h2
    have h1 := of_decide_eq_false h1
    have h2 : decide (((s.rels.map rlsT).length : Int) > 16) = false := h2
    simp only [List.length_map, decide_eq_false_iff_not] at h2
    have hs1 : s.name.size ≤ 100 := by omega
    have hs2 : s.rels.length ≤ 16 := by omega
    have hnext : s.rels.all Rls.small = true → (c.take (i + 1)).all Svc.small = true := fun h => all_snoc hlt hp (by rw [hs]; unfold Svc.small; rw [decide_eq_true hs1, decide_eq_true hs2, h]; rfl)
    have hst : (c.take (i + 1)).map svcT = (c.take i).map svcT ++ [svcT s] := by rw [List.take_succ_eq_append_getElem hlt, hs, List.map_append]; rfl
    refine Tr.loopS (fun k : Nat => [(.s 2, .ptr (.l 2) 0), (.l 2, .blk 28 [.own 52 []]), (.s 4, .ptr (.l 4) 0), (.l 4, .blk 28 [.own 52 ((c.take i).map svcT)]), (.s 21, .tr (.ls (c.map svcT))), (.s 22, int (c.map svcT).length), (.s 23, int i),
        (.s 7, .ptr (.l 7) 0), (.l 7, .blk 52 [str s.name, .own 90 ((s.rels.take k).map rlsT)]), (.s 42, .tr (.ls (s.rels.map rlsT))), (.s 43, int (s.rels.map rlsT).length), (.s 44, int k)]) (fun k => s.rels.length - k)
      (fun k => k ≤ s.rels.length ∧ (s.rels.take k).all Rls.small = true)
      0 ⟨by omega, by simp⟩ (Sub.app (l := [_, _, _, _, _, _, _, _, _, _, _, _]) (H := []) ⟨rfl, rfl, rfl, rfl, rfl, rfl, rfl, rfl, rfl, rfl, rfl, rfl, trivial⟩ (fun κ v h => nomatch h)) ?_
    rintro k ⟨hk, hpk⟩
    repeat' (first|refine zS ?_|refine zR ?_|refine zE tab_ok rfl rfl ?_|refine zN ?_|(refine zG rfl rfl (fun _ => ?_) fun _ => ?_)<;>refine zE tab_ok rfl rfl ?_|(refine zC rfl (fun _ => ?_) fun _ => ?_)<;>try (rename_i h; cases h; done)|refine zB ?_|refine zK ?_|refine zZ ⟨_, rfl, ?_⟩)
    · rename_i h3
      have hlt2 : k < s.rels.length := by simp only [List.length_map, decide_eq_true_eq] at h3; omega
      obtain ⟨r, hr⟩ : ∃ r, s.rels[k] = r := ⟨_, rfl⟩
      have hrm : r ∈ s.rels := hr ▸ List.getElem_mem hlt2
      have hre : (s.rels.map rlsT)[((k : Nat) : Int).toNat]? = some (rlsT r) := by rw [Int.toNat_natCast, List.getElem?_map, List.getElem?_eq_getElem hlt2, hr]; rfl
      have bad2 : ∀ q : Ctl, r.small = false → MadeC c (.tup [ctlArg q, bool false]) := fun q h => bad q (small_no hsm (svc_no hrm h))
      refine zI (x := rlsT r) tab_ok rfl (by omega) (hre) rfl ?_
      refine zE tab_ok rfl rfl ?_
      refine zE tab_ok rfl rfl ?_
      refine zE tab_ok rfl rfl ?_
      refine zN ?_
      refine zS ?_
      refine zR ?_
      refine zE tab_ok rfl rfl ?_
      refine zE tab_ok rfl rfl ?_
      refine zE tab_ok rfl rfl ?_
      refine zE tab_ok rfl rfl ?_
      refine Sq.buildN tab_ok rfl rfl ?_
      refine zE tab_ok rfl rfl ?_
      refine zE tab_ok rfl rfl ?_
      refine zN ?_
      refine Tr.turn (fun Γ a w h => RelX.nilOwn tab_ok h (.l 10) 90 97 [int r.v.a, int r.v.b, int r.v.c, str r.v.p, int r.level] [] rfl rfl rfl) ?_
      repeat' (first|refine zS ?_|refine zR ?_|refine zE tab_ok rfl rfl ?_|refine zN ?_|(refine zG rfl rfl (fun _ => ?_) fun _ => ?_)<;>refine zE tab_ok rfl rfl ?_|(refine zC rfl (fun _ => ?_) fun _ => ?_)<;>try (rename_i h; cases h; done)|refine zB ?_|refine zK ?_|refine zZ ⟨_, rfl, ?_⟩)
      · rename_i h4 _
        have h4 : decide (((r.needs.map ndT).length : Int) > 12) = true := h4
        simp only [List.length_map, decide_eq_true_eq] at h4
        exact bad2 _ (by unfold Rls.small; rw [decide_eq_false (p := r.needs.length ≤ 12) (by omega)]; rfl)
      · rename_i h4
        have h4 := of_decide_eq_true h4
        exact bad2 _ (by unfold Rls.small; rw [decide_eq_false (p := r.v.p.size ≤ 100) (by omega), Bool.and_false]; rfl)
      rename_i h4 h5
      have h4 : decide (((r.needs.map ndT).length : Int) > 12) = false := h4
      simp only [List.length_map, decide_eq_false_iff_not] at h4
      have h5 := of_decide_eq_false h5
      have hr1 : r.needs.length ≤ 12 := by omega
      have hr2 : r.v.p.size ≤ 100 := by omega
      have hnextk : r.needs.all Nd.small = true → (s.rels.take (k + 1)).all Rls.small = true := fun h => all_snoc hlt2 hpk (by rw [hr]; unfold Rls.small; rw [decide_eq_true hr1, decide_eq_true hr2, h]; rfl)
      have hstk : (s.rels.take (k + 1)).map rlsT = (s.rels.take k).map rlsT ++ [rlsT r] := by rw [List.take_succ_eq_append_getElem hlt2, hr, List.map_append]; rfl
      refine Tr.loopS (fun n : Nat => [(.s 2, .ptr (.l 2) 0), (.l 2, .blk 28 [.own 52 []]), (.s 4, .ptr (.l 4) 0), (.l 4, .blk 28 [.own 52 ((c.take i).map svcT)]), (.s 21, .tr (.ls (c.map svcT))), (.s 22, int (c.map svcT).length), (.s 23, int i),
          (.s 7, .ptr (.l 7) 0), (.l 7, .blk 52 [str s.name, .own 90 ((s.rels.take k).map rlsT)]), (.s 42, .tr (.ls (s.rels.map rlsT))), (.s 43, int (s.rels.map rlsT).length), (.s 44, int k),
          (.s 10, .ptr (.l 10) 0), (.l 10, .blk 90 [int r.v.a, int r.v.b, int r.v.c, str r.v.p, int r.level, .own 97 ((r.needs.take n).map ndT)]), (.s 66, .tr (.ls (r.needs.map ndT))), (.s 67, int (r.needs.map ndT).length), (.s 68, int n)]) (fun n => r.needs.length - n)
        (fun n => n ≤ r.needs.length ∧ (r.needs.take n).all Nd.small = true)
        0 ⟨by omega, by simp⟩ (Sub.app (l := [_, _, _, _, _, _, _, _, _, _, _, _, _, _, _, _, _]) (H := []) ⟨rfl, rfl, rfl, rfl, rfl, rfl, rfl, rfl, rfl, rfl, rfl, rfl, rfl, rfl, rfl, rfl, rfl, trivial⟩ (fun κ v h => nomatch h)) ?_
      rintro n ⟨hn, hpn⟩
      repeat' (first|refine zS ?_|refine zR ?_|refine zE tab_ok rfl rfl ?_|refine zN ?_|(refine zG rfl rfl (fun _ => ?_) fun _ => ?_)<;>refine zE tab_ok rfl rfl ?_|(refine zC rfl (fun _ => ?_) fun _ => ?_)<;>try (rename_i h; cases h; done)|refine zB ?_|refine zK ?_|refine zZ ⟨_, rfl, ?_⟩)
      · rename_i h6
        have hlt3 : n < r.needs.length := by simp only [List.length_map, decide_eq_true_eq] at h6; omega
        obtain ⟨x, hx⟩ : ∃ x, r.needs[n] = x := ⟨_, rfl⟩
        have hxm : x ∈ r.needs := hx ▸ List.getElem_mem hlt3
        have hxe : (r.needs.map ndT)[((n : Nat) : Int).toNat]? = some (ndT x) := by rw [Int.toNat_natCast, List.getElem?_map, List.getElem?_eq_getElem hlt3, hx]; rfl
        have hstn : (r.needs.take (n + 1)).map ndT = (r.needs.take n).map ndT ++ [ndT x] := by rw [List.take_succ_eq_append_getElem hlt3, hx, List.map_append]; rfl
        refine zI (x := ndT x) tab_ok rfl (by omega) (hxe) rfl ?_
        repeat' (first|refine zS ?_|refine zR ?_|refine zE tab_ok rfl rfl ?_|refine zN ?_|(refine zG rfl rfl (fun _ => ?_) fun _ => ?_)<;>refine zE tab_ok rfl rfl ?_|(refine zC rfl (fun _ => ?_) fun _ => ?_)<;>try (rename_i h; cases h; done)|refine zB ?_|refine zK ?_|refine zZ ⟨_, rfl, ?_⟩)
        refine zL rfl (madeRange_ok x.r) ?_
        rintro _ ⟨q, rfl, hq⟩
        have esm : plainR 12 x.r = x.small := rfl
        rw [esm] at hq ⊢
        cases hsx : x.small
        · repeat' (first|refine zS ?_|refine zR ?_|refine zE tab_ok rfl rfl ?_|refine zN ?_|(refine zG rfl rfl (fun _ => ?_) fun _ => ?_)<;>refine zE tab_ok rfl rfl ?_|(refine zC rfl (fun _ => ?_) fun _ => ?_)<;>try (rename_i h; cases h; done)|refine zB ?_|refine zK ?_|refine zZ ⟨_, rfl, ?_⟩)
          exact bad2 _ (rls_no hxm hsx)
        · have e := (hq hsx).symm
          subst e
          repeat' (first|refine zS ?_|refine zR ?_|refine zE tab_ok rfl rfl ?_|refine zN ?_|(refine zG rfl rfl (fun _ => ?_) fun _ => ?_)<;>refine zE tab_ok rfl rfl ?_|(refine zC rfl (fun _ => ?_) fun _ => ?_)<;>try (rename_i h; cases h; done)|refine zB ?_|refine zK ?_|refine zZ ⟨_, rfl, ?_⟩)
          refine Sq.append tab_ok rfl (fun y hy => by simp only [List.mem_singleton] at hy; subst hy; rfl) (by simp; omega) ?_
          repeat' (first|refine zS ?_|refine zR ?_|refine zE tab_ok rfl rfl ?_|refine zN ?_|(refine zG rfl rfl (fun _ => ?_) fun _ => ?_)<;>refine zE tab_ok rfl rfl ?_|(refine zC rfl (fun _ => ?_) fun _ => ?_)<;>try (rename_i h; cases h; done)|refine zB ?_|refine zK ?_|refine zZ ⟨_, rfl, ?_⟩)
          refine ⟨n + 1, ⟨by omega, all_snoc hlt3 hpn (by rw [hx]; exact hsx)⟩, by omega, Sub.app (l := [_, _, _, _, _, _, _, _, _, _, _, _, _, _, _, _, _]) (H := []) ⟨rfl, rfl, rfl, rfl, rfl, rfl, rfl, rfl, rfl, rfl, rfl, rfl, rfl, by rw [hstn]; rfl, rfl, rfl, congrArg some (wrapz (by omega) (by omega) (by omega)), trivial⟩ (fun κ v h => nomatch h)⟩
      · rename_i h6
        have hge : r.needs.length ≤ n := by simp only [List.length_map, decide_eq_false_iff_not] at h6; omega
        rw [List.take_of_length_le hge] at hpn ⊢
        refine Tr.exit ?_
        repeat' (first|refine zS ?_|refine zR ?_|refine zE tab_ok rfl rfl ?_|refine zN ?_|(refine zG rfl rfl (fun _ => ?_) fun _ => ?_)<;>refine zE tab_ok rfl rfl ?_|(refine zC rfl (fun _ => ?_) fun _ => ?_)<;>try (rename_i h; cases h; done)|refine zB ?_|refine zK ?_|refine zZ ⟨_, rfl, ?_⟩)
        refine Sq.append tab_ok rfl (fun y hy => by simp only [List.mem_singleton] at hy; subst hy; rfl) (by simp; omega) ?_
        repeat' (first|refine zS ?_|refine zR ?_|refine zE tab_ok rfl rfl ?_|refine zN ?_|(refine zG rfl rfl (fun _ => ?_) fun _ => ?_)<;>refine zE tab_ok rfl rfl ?_|(refine zC rfl (fun _ => ?_) fun _ => ?_)<;>try (rename_i h; cases h; done)|refine zB ?_|refine zK ?_|refine zZ ⟨_, rfl, ?_⟩)
        refine ⟨k + 1, ⟨by omega, hnextk hpn⟩, by omega, Sub.app (l := [_, _, _, _, _, _, _, _, _, _, _, _]) (H := []) ⟨rfl, rfl, rfl, rfl, rfl, rfl, rfl, rfl, by rw [hstk]; rfl, rfl, rfl, congrArg some (wrapz (by omega) (by omega) (by omega)), trivial⟩ (fun κ v h => nomatch h)⟩
    · rename_i h3
      have hge : s.rels.length ≤ k := by simp only [List.length_map, decide_eq_false_iff_not] at h3; omega
      rw [List.take_of_length_le hge] at hpk ⊢
      refine Tr.exit ?_
      repeat' (first|refine zS ?_|refine zR ?_|refine zE tab_ok rfl rfl ?_|refine zN ?_|(refine zG rfl rfl (fun _ => ?_) fun _ => ?_)<;>refine zE tab_ok rfl rfl ?_|(refine zC rfl (fun _ => ?_) fun _ => ?_)<;>try (rename_i h; cases h; done)|refine zB ?_|refine zK ?_|refine zZ ⟨_, rfl, ?_⟩)
      refine Sq.append tab_ok rfl (fun y hy => by simp only [List.mem_singleton] at hy; subst hy; rfl) (by simp; omega) ?_
      repeat' (first|refine zS ?_|refine zR ?_|refine zE tab_ok rfl rfl ?_|refine zN ?_|(refine zG rfl rfl (fun _ => ?_) fun _ => ?_)<;>refine zE tab_ok rfl rfl ?_|(refine zC rfl (fun _ => ?_) fun _ => ?_)<;>try (rename_i h; cases h; done)|refine zB ?_|refine zK ?_|refine zZ ⟨_, rfl, ?_⟩)
      refine ⟨i + 1, ⟨by omega, hnext hpk⟩, by omega, Sub.app (l := [_, _, _, _, _, _, _]) (H := []) ⟨rfl, rfl, rfl, by rw [hst]; rfl, rfl, rfl, congrArg some (wrapz (by omega) (by omega) (by omega)), trivial⟩ (fun κ v h => nomatch h)⟩
  · rename_i h
    have hge : c.length ≤ i := by simp only [List.length_map, decide_eq_false_iff_not] at h; omega
    rw [List.take_of_length_le hge] at hp ⊢
    refine Tr.exit ?_
    repeat' (first|refine zS ?_|refine zR ?_|refine zE tab_ok rfl rfl ?_|refine zN ?_|(refine zG rfl rfl (fun _ => ?_) fun _ => ?_)<;>refine zE tab_ok rfl rfl ?_|(refine zC rfl (fun _ => ?_) fun _ => ?_)<;>try (rename_i h; cases h; done)|refine zB ?_|refine zK ?_|refine zZ ⟨_, rfl, ?_⟩)
    have : smallC c = true := by unfold smallC; rw [decide_eq_true hc16, hp]; rfl
    exact ⟨c, by rw [this], fun _ => rfl⟩
end Go.Lg.Tryz

set_option linter.unusedVariables false
set_option linter.unusedSimpArgs false
namespace Go.Lg.Sem
open Go
def letB (b : UInt8) : Bool := decide (97 ≤ b.toNat) && decide (b.toNat ≤ 122)
def nameC (b : UInt8) : Bool := letB b || b == 45 || (decide (48 ≤ b.toNat) && decide (b.toNat ≤ 57))
def nameB (s : ByteArray) : Bool := decide (1 ≤ s.size) && decide (s.size ≤ 20) && letB (s.data.toList.getD 0 0) && s.data.toList.all nameC
def letters : List UInt8 := [97, 98, 99, 100, 101, 102, 103, 104, 105, 106, 107, 108, 109, 110, 111, 112, 113, 114, 115, 116, 117, 118, 119, 120, 121, 122]
def nset : List UInt8 := letters ++ [48, 49, 50, 51, 52, 53, 54, 55, 56, 57, 45]
theorem u8_fin (b : UInt8) : ∃ k : Fin 256, b = UInt8.ofNat k.1 := ⟨⟨b.toNat, b.toNat_lt⟩, by simp⟩
theorem trim_letters (b : UInt8) : (Lib.trimS [b] letters == []) = letB b := by
  obtain ⟨k, rfl⟩ := u8_fin b
  have : ∀ k : Fin 256, (Lib.trimS [UInt8.ofNat k.1] letters == []) = letB (UInt8.ofNat k.1) := by decide +kernel
  exact this k
theorem index_nset (b : UInt8) : decide (Lib.indexByte nset b < 0) = !nameC b := by
  obtain ⟨k, rfl⟩ := u8_fin b
  have : ∀ k : Fin 256, decide (Lib.indexByte nset (UInt8.ofNat k.1) < 0) = !nameC (UInt8.ofNat k.1) := by decide +kernel
  exact this k
def svcV (c : Ctl) (i : Nat) : Int := match c[i]? with
  | some s => if nameB s.name = false then 30 else if (c.take i).any (fun o => o.name.data.toList == s.name.data.toList) then 31 else if s.rels.length < 1 ∨ s.rels.length > 12 then 36 else 0
  | none => 0
def firstE (f : Nat → Int) (n : Nat) : Int := (((List.range n).map f).find? (fun x => x != 0)).getD 0
theorem firstE_at {f : Nat → Int} {n k : Nat} (hk : k < n) (h : ∀ j, j < k → f j = 0) (hf : f k ≠ 0) : firstE f n = f k := by
  unfold firstE
  have e : List.range n = List.range k ++ k :: (List.range' (k + 1) (n - k - 1)) := by
    rw [List.range_eq_range', List.range_eq_range']
    have : List.range' 0 n = List.range' 0 k ++ List.range' k (n - k) := by
      rw [show n = k + (n - k) by omega, ← List.range'_append_1]; simp
    rw [this]
    congr 1
    rw [show n - k = (n - k - 1) + 1 by omega, List.range'_succ]; simp
  rw [e, List.map_append, List.find?_append]
  have h1 : ((List.range k).map f).find? (fun x => x != 0) = none := by
    rw [List.find?_eq_none]
    intro x hx
    obtain ⟨j, hj, rfl⟩ := List.mem_map.1 hx
    rw [h j (List.mem_range.1 hj)]; simp
  rw [h1, List.map_cons, List.find?_cons]
  have : (f k != 0) = true := by simpa using hf
  simp [this]
theorem firstE_none {f : Nat → Int} {n : Nat} (h : ∀ j, j < n → f j = 0) : firstE f n = 0 := by
  unfold firstE
  have h1 : ((List.range n).map f).find? (fun x => x != 0) = none := by
    rw [List.find?_eq_none]
    intro x hx
    obtain ⟨j, hj, rfl⟩ := List.mem_map.1 hx
    rw [h j (List.mem_range.1 hj)]; simp
  rw [h1]; rfl
def needAt (N i : Int) (l : List Nd) (k : Nat) : Int := match l[k]? with
  | some n => if n.s < 0 ∨ n.s ≥ N ∨ n.s = i then 33 else if (l.take k).any (fun o => o.s == n.s) then 31 else if rngRight n.r = false then 12 else 0
  | none => 0
def needsV (N i : Int) (l : List Nd) : Int := firstE (needAt N i l) l.length
def prevB (s : Svc) (k : Nat) (p : Rls → Bool) : Bool := decide (0 < k) && match s.rels[k - 1]? with
  | some q => p q
  | none => false
def relV (c : Ctl) (i k : Nat) : Int := match c[i]? with
  | some s => match s.rels[k]? with
    | some r => if r.v.right = false then 34
      else if prevB s k (fun q => cmpVer q.v r.v != -1) = true then 32
      else if r.level < 0 ∨ r.level > 1000 ∨ prevB s k (fun q => decide (r.level < q.level)) = true then 35
      else if r.needs.length > 8 then 36
      else needsV c.length i r.needs
    | none => 0
  | none => 0
end Go.Lg.Sem

set_option linter.unusedVariables false
set_option linter.unusedSimpArgs false
namespace Go.Lg.Tryz
open Go Go.Proofs Go.RowKit Go.Lib Go.Lg.Sem
theorem idxb_ok (s : ByteArray) (b : UInt8) : Fn Tryz.prog Gw 104 [str s, .tr (byteT b)] [] (· = int (Lib.indexByte s.data.toList b)) :=
  Fn.of_calls Tryz.func104 rfl rfl rfl rfl fun w _ => (Tryz.strings_IndexByte s b.toNat w).mono fun e w' ⟨he, hw⟩ => ⟨by rw [he]; simp, by subst hw; exact Below.refl _ _⟩
theorem inner_ok (s : ByteArray) (hs : s.size ≤ 1000000000) : Fn Tryz.prog Gw 75 [str s, str (toBytes nset)] [] (· = bool (s.data.toList.all nameC)) := by
  have hz := data_length s
  have hix : ∀ b, Fn Tryz.prog Gw 104 [str (toBytes nset), .tr (byteT b)] [] (· = int (Lib.indexByte nset b)) := fun b => idxb_ok (toBytes nset) b
  generalize toBytes nset = S at *
  obtain ⟨x, hx⟩ : ∃ x, s.data.toList = x := ⟨_, rfl⟩
  rw [hx] at hz ⊢
  refine Fn.of tab_ok Tryz.func75 rfl (by decide) (by simp [Tryz.f75]) rfl (fun κ v h => by cases h) Gw.below ?_
  repeat' (first|refine zS ?_|refine zR ?_|refine zE tab_ok rfl rfl ?_|refine zN ?_|(refine zG rfl rfl (fun _ => ?_) fun _ => ?_)<;>refine zE tab_ok rfl rfl ?_|(refine zC rfl (fun _ => ?_) fun _ => ?_)<;>try (rename_i h; cases h; done)|refine zB ?_|refine zK ?_|refine zZ ⟨_, rfl, ?_⟩)
  refine Tr.loopS (fun i : Nat => [(.s 0, str s), (.s 1, str S), (.s 7, int s.size), (.s 8, int i)]) (fun i => x.length - i) (fun i => i ≤ x.length ∧ (x.take i).all nameC = true)
    0 ⟨by omega, by simp⟩ (Sub.app (l := [_, _, _, _]) (H := []) ⟨rfl, rfl, rfl, rfl, trivial⟩ (fun κ v h => nomatch h)) ?_
  rintro i ⟨hi, hp⟩
  repeat' (first|refine zS ?_|refine zR ?_|refine zE tab_ok rfl rfl ?_|refine zN ?_|(refine zG rfl rfl (fun _ => ?_) fun _ => ?_)<;>refine zE tab_ok rfl rfl ?_|(refine zC rfl (fun _ => ?_) fun _ => ?_)<;>try (rename_i h; cases h; done)|refine zB ?_|refine zK ?_|refine zZ ⟨_, rfl, ?_⟩)
  · rename_i h
    have hlt : i < x.length := by have := of_decide_eq_true h; omega
    have hb : s.data.toList[((i : Nat) : Int).toNat]? = some x[i] := by rw [hx]; simp [hlt]
    refine Sq.byte (b := x[i]) tab_ok rfl (by omega) hb ?_
    repeat' (first|refine zS ?_|refine zR ?_|refine zE tab_ok rfl rfl ?_|refine zN ?_|(refine zG rfl rfl (fun _ => ?_) fun _ => ?_)<;>refine zE tab_ok rfl rfl ?_|(refine zC rfl (fun _ => ?_) fun _ => ?_)<;>try (rename_i h; cases h; done)|refine zB ?_|refine zK ?_|refine zZ ⟨_, rfl, ?_⟩)
    refine Sq.callv rfl (hix x[i]) ?_
    have hd := index_nset x[i]
    repeat' (first|refine zS ?_|refine zR ?_|refine zE tab_ok rfl rfl ?_|refine zN ?_|(refine zG rfl rfl (fun _ => ?_) fun _ => ?_)<;>refine zE tab_ok rfl rfl ?_|(refine zC rfl (fun _ => ?_) fun _ => ?_)<;>try (rename_i h; cases h; done)|refine zB ?_|refine zK ?_|refine zZ ⟨_, rfl, ?_⟩)
    · rename_i h2
      have h2 : decide (Lib.indexByte nset x[i] < 0) = true := h2
      rw [h2] at hd
      show bool _ = bool _
      congr 3
      have hn : nameC x[i] = false := by simpa using hd.symm
      rw [eq_comm, ← Bool.not_eq_true, List.all_eq_true]
      intro hh
      rw [hh _ (List.getElem_mem hlt)] at hn; cases hn
    · rename_i h2
      have h2 : decide (Lib.indexByte nset x[i] < 0) = false := h2
      rw [h2] at hd
      exact ⟨i + 1, ⟨by omega, all_snoc hlt hp (by simpa using hd.symm)⟩, by omega, Sub.app (l := [_, _, _, _]) (H := []) ⟨rfl, rfl, rfl, congrArg some (wrapz (by omega) (by omega) (by omega)), trivial⟩ (fun κ v h => nomatch h)⟩
  · rename_i h
    have hge : x.length ≤ i := by have := of_decide_eq_false h; omega
    rw [List.take_of_length_le hge] at hp
    refine Tr.exit ?_
    repeat' (first|refine zS ?_|refine zR ?_|refine zE tab_ok rfl rfl ?_|refine zN ?_|(refine zG rfl rfl (fun _ => ?_) fun _ => ?_)<;>refine zE tab_ok rfl rfl ?_|(refine zC rfl (fun _ => ?_) fun _ => ?_)<;>try (rename_i h; cases h; done)|refine zB ?_|refine zK ?_|refine zZ ⟨_, rfl, ?_⟩)
    rw [hp]
theorem named_ok (s : ByteArray) (hs : s.size ≤ 1000000000) : Fn Tryz.prog Gw 54 [str s] [] (· = bool (nameB s)) := by
  have hz := data_length s
  have hI := inner_ok s hs
  by_cases h0 : s.size = 0
  · have e : s = ⟨#[]⟩ := bytes_ext (List.eq_nil_of_length_eq_zero (by omega))
    subst e
    refine Fn.of tab_ok Tryz.func54 rfl (by decide) (by simp [Tryz.f54]) rfl (fun κ v h => by cases h) Gw.below ?_
    repeat' (first|refine zS ?_|refine zR ?_|refine zE tab_ok rfl rfl ?_|refine zN ?_|(refine zG rfl rfl (fun _ => ?_) fun _ => ?_)<;>refine zE tab_ok rfl rfl ?_|(refine zC rfl (fun _ => ?_) fun _ => ?_)<;>try (rename_i h; cases h; done)|refine zB ?_|refine zK ?_|refine zZ ⟨_, rfl, ?_⟩)
    all_goals first | rfl | (rename_i h; simp at h)
  · obtain ⟨b, t, hbt⟩ : ∃ b t, s.data.toList = b :: t := by
      cases h : s.data.toList with
      | nil => rw [h] at hz; simp at hz; omega
      | cons b t => exact ⟨b, t, rfl⟩
    have hT := trim_ok (s.extract 0 1) (toBytes letters) (by simp only [ByteArray.size_extract]; omega) (by decide) (by decide)
    have hx1 : (s.extract 0 1).data.toList = [b] := by rw [ext_data, hbt]; rfl
    rw [hx1] at hT
    have e1 : (toBytes letters).data.toList = letters := rfl
    rw [e1] at hT
    have hN : nameB s = (decide (s.size ≤ 20) && (letB b && s.data.toList.all nameC)) := by
      unfold nameB
      rw [hbt, decide_eq_true (p := 1 ≤ s.size) (by omega)]; simp [Bool.and_assoc]
    rw [hN]
    have hl := trim_letters b
    have hne : (s.toList != ByteArray.toList ⟨#[]⟩) = true := by rw [ba_toList, hbt]; simp
    generalize s.data.toList.all nameC = B at *
    refine Fn.of tab_ok Tryz.func54 rfl (by decide) (by simp [Tryz.f54]) rfl (fun κ v h => by cases h) Gw.below ?_
    repeat' (first|refine zS ?_|refine zR ?_|refine zE tab_ok rfl rfl ?_|refine zN ?_|(refine zG rfl rfl (fun _ => ?_) fun _ => ?_)<;>refine zE tab_ok rfl rfl ?_|(refine zC rfl (fun _ => ?_) fun _ => ?_)<;>try (rename_i h; cases h; done)|refine zB ?_|refine zK ?_|refine zZ ⟨_, rfl, ?_⟩)
    · refine Sq.substr tab_ok rfl (by show (0 : Int) ≤ 0; omega) (by show (0 : Int) ≤ 1; omega) (by show (1 : Int) ≤ (s.size : Int); omega) ?_
      have hxx : s.extract (Bd.lo .no).toNat (Bd.hi s.size (.at 1)).toNat = s.extract 0 1 := rfl
      rw [hxx]
      rename_i h3
      have h3 := of_decide_eq_true h3
      have hd : (toBytes (Lib.trimS [b] letters)).toList = Lib.trimS [b] letters := by rw [ba_toList]; simp [toBytes]
      have hd2 : ((toBytes (Lib.trimS [b] letters)).toList == ByteArray.toList ⟨#[]⟩) = letB b := by rw [hd, ← hl, ba_toList]
      generalize toBytes (Lib.trimS [b] letters) = R at *
      generalize s.extract 0 1 = X at *
      repeat' (first|refine zS ?_|refine zR ?_|refine zE tab_ok rfl rfl ?_|refine zN ?_|(refine zG rfl rfl (fun _ => ?_) fun _ => ?_)<;>refine zE tab_ok rfl rfl ?_|(refine zC rfl (fun _ => ?_) fun _ => ?_)<;>try (rename_i h; cases h; done)|refine zB ?_|refine zK ?_|refine zZ ⟨_, rfl, ?_⟩)
      refine Sq.callv rfl (hT) ?_
      repeat' (first|refine zS ?_|refine zR ?_|refine zE tab_ok rfl rfl ?_|refine zN ?_|(refine zG rfl rfl (fun _ => ?_) fun _ => ?_)<;>refine zE tab_ok rfl rfl ?_|(refine zC rfl (fun _ => ?_) fun _ => ?_)<;>try (rename_i h; cases h; done)|refine zB ?_|refine zK ?_|refine zZ ⟨_, rfl, ?_⟩)
      · rename_i h4
        have h4 : (R.toList == ByteArray.toList ⟨#[]⟩) = true := h4
        rw [hd2] at h4
        refine Sq.callv rfl (hI) ?_
        repeat' (first|refine zS ?_|refine zR ?_|refine zE tab_ok rfl rfl ?_|refine zN ?_|(refine zG rfl rfl (fun _ => ?_) fun _ => ?_)<;>refine zE tab_ok rfl rfl ?_|(refine zC rfl (fun _ => ?_) fun _ => ?_)<;>try (rename_i h; cases h; done)|refine zB ?_|refine zK ?_|refine zZ ⟨_, rfl, ?_⟩)
        rw [h4, decide_eq_true (by omega)]; rfl
      · rename_i h4
        have h4 : (R.toList == ByteArray.toList ⟨#[]⟩) = false := h4
        rw [hd2] at h4
        show bool _ = bool _
        rw [h4]; simp
    · rename_i h3
      have h3 := of_decide_eq_false h3
      show bool _ = bool _
      rw [decide_eq_false (by omega)]; rfl
    · rename_i h3
      exfalso
      have h3 : (!(s.toList == ByteArray.toList ⟨#[]⟩)) = false := h3
      rw [← bne, hne] at h3; cases h3
theorem Name_ok (s : ByteArray) (hs : s.size ≤ 1000000000) : Fn Tryz.prog Gw 60 [str s] [] (· = bool (nameB s)) := by
  have hz := data_length s
  by_cases h0 : s.size < 1 ∨ s.size > 20
  · have hN : nameB s = false := by
      unfold nameB
      rcases h0 with h0 | h0
      · rw [decide_eq_false (p := 1 ≤ s.size) (by omega)]; rfl
      · rw [decide_eq_false (p := s.size ≤ 20) (by omega), Bool.and_false]; rfl
    rw [hN]
    refine Fn.of tab_ok Tryz.func60 rfl (by decide) (by simp [Tryz.f60]) rfl (fun κ v h => by cases h) Gw.below ?_
    repeat' (first|refine zS ?_|refine zR ?_|refine zE tab_ok rfl rfl ?_|refine zN ?_|(refine zG rfl rfl (fun _ => ?_) fun _ => ?_)<;>refine zE tab_ok rfl rfl ?_|(refine zC rfl (fun _ => ?_) fun _ => ?_)<;>try (rename_i h; cases h; done)|refine zB ?_|refine zK ?_|refine zZ ⟨_, rfl, ?_⟩)
    · rfl
    · rfl
    · rename_i h1 h2
      exfalso
      have h1 := of_decide_eq_false h1
      have h2 := of_decide_eq_false h2
      omega
  obtain ⟨x, hx⟩ : ∃ x, s.data.toList = x := ⟨_, rfl⟩
  rw [hx] at hz
  have hN : nameB s = (letB (x.getD 0 0) && x.all nameC) := by
    unfold nameB
    rw [hx, decide_eq_true (p := 1 ≤ s.size) (by omega), decide_eq_true (p := s.size ≤ 20) (by omega)]; rfl
  refine Fn.of tab_ok Tryz.func60 rfl (by decide) (by simp [Tryz.f60]) rfl (fun κ v h => by cases h) Gw.below ?_
  repeat' (first|refine zS ?_|refine zR ?_|refine zE tab_ok rfl rfl ?_|refine zN ?_|(refine zG rfl rfl (fun _ => ?_) fun _ => ?_)<;>refine zE tab_ok rfl rfl ?_|(refine zC rfl (fun _ => ?_) fun _ => ?_)<;>try (rename_i h; cases h; done)|refine zB ?_|refine zK ?_|refine zZ ⟨_, rfl, ?_⟩)
  · rename_i h1 _; exfalso; have h1 := of_decide_eq_true h1; omega
  · rename_i h1; exfalso; have h1 := of_decide_eq_true h1; omega
  refine Tr.loopS (fun i : Nat => [(.s 0, str s), (.s 3, int i)]) (fun i => x.length - i) (fun i => i ≤ x.length ∧ (x.take i).all nameC = true ∧ (0 < i → letB (x.getD 0 0) = true))
    0 ⟨by omega, by simp, by omega⟩ (Sub.app (l := [_, _]) (H := []) ⟨rfl, rfl, trivial⟩ (fun κ v h => nomatch h)) ?_
  rintro i ⟨hi, hp, hp0⟩
  repeat' (first|refine zS ?_|refine zR ?_|refine zE tab_ok rfl rfl ?_|refine zN ?_|(refine zG rfl rfl (fun _ => ?_) fun _ => ?_)<;>refine zE tab_ok rfl rfl ?_|(refine zC rfl (fun _ => ?_) fun _ => ?_)<;>try (rename_i h; cases h; done)|refine zB ?_|refine zK ?_|refine zZ ⟨_, rfl, ?_⟩)
  · rename_i h
    have hlt : i < x.length := by have := of_decide_eq_true h; omega
    obtain ⟨b, hbx⟩ : ∃ b, x[i] = b := ⟨_, rfl⟩
    have hb : s.data.toList[((i : Nat) : Int).toNat]? = some b := by rw [hx, ← hbx]; simp [hlt]
    have hb0 : i = 0 → x.getD 0 0 = b := fun e => by subst e; rw [← hbx]; simp [List.getD, hlt]
    have good : nameC b = true → (i = 0 → letB b = true) → i + 1 ≤ x.length ∧ (x.take (i + 1)).all nameC = true ∧ (0 < i + 1 → letB (x.getD 0 0) = true) := fun h1 h2 =>
      ⟨by omega, all_snoc hlt hp (by rw [hbx]; exact h1), fun _ => by
        by_cases e : i = 0
        · rw [hb0 e]; exact h2 e
        · exact hp0 (by omega)⟩
    have bad : nameC b = false ∨ (i = 0 ∧ letB b = false) → nameB s = false := fun h => by
      rw [hN]
      rcases h with h | ⟨h1, h2⟩
      · rw [Bool.and_eq_false_iff]; right
        rw [← Bool.not_eq_true, List.all_eq_true]
        intro hh
        rw [hh b (hbx ▸ List.getElem_mem hlt)] at h; cases h
      · rw [hb0 h1, h2]; rfl
    have hLe : letB b = decide (97 ≤ b.toNat ∧ b.toNat ≤ 122) := by unfold letB; rw [Bool.decide_and]
    have h45 : (b == 45) = decide (b.toNat = 45) := by
      rw [Bool.eq_iff_iff, beq_iff_eq, decide_eq_true_eq]
      exact ⟨fun h => by rw [h]; rfl, fun h => UInt8.toNat_inj.1 h⟩
    have hC : nameC b = decide ((97 ≤ b.toNat ∧ b.toNat ≤ 122) ∨ b.toNat = 45 ∨ (48 ≤ b.toNat ∧ b.toNat ≤ 57)) := by
      unfold nameC
      rw [hLe, h45, Bool.decide_or, Bool.decide_or, Bool.decide_and (p := 48 ≤ b.toNat), Bool.or_assoc]
    rw [hC, hLe] at good bad
    simp only [decide_eq_true_eq, decide_eq_false_iff_not] at good bad
    clear hC hLe h45 hb0
    refine Sq.byte (b := b) tab_ok rfl (by omega) hb ?_
    repeat' (first|refine zS ?_|refine zR ?_|refine zE tab_ok rfl rfl ?_|refine zN ?_|(refine zG rfl rfl (fun _ => ?_) fun _ => ?_)<;>refine zE tab_ok rfl rfl ?_|(refine zC rfl (fun _ => ?_) fun _ => ?_)<;>try (rename_i h; cases h; done)|refine zB ?_|refine zK ?_|refine zZ ⟨_, rfl, ?_⟩)
    iterate 5 (all_goals (first | (refine Sq.byte (b := b) tab_ok rfl (by omega) hb ?_; repeat' (first|refine zS ?_|refine zR ?_|refine zE tab_ok rfl rfl ?_|refine zN ?_|(refine zG rfl rfl (fun _ => ?_) fun _ => ?_)<;>refine zE tab_ok rfl rfl ?_|(refine zC rfl (fun _ => ?_) fun _ => ?_)<;>try (rename_i h; cases h; done)|refine zB ?_|refine zK ?_|refine zZ ⟨_, rfl, ?_⟩)) | skip))
    all_goals first
      | (refine ⟨i + 1, good ?_ ?_, by omega, Sub.app (l := [_, _]) (H := []) ⟨rfl, congrArg some (wrapz (by omega) (by omega) (by omega)), trivial⟩ (fun κ v h => nomatch h)⟩)
      | (refine congrArg bool (bad ?_).symm)
    all_goals simp only [decide_eq_true_eq, decide_eq_false_iff_not, beq_iff_eq, beq_eq_false_iff_ne, Bool.not_eq_true', Bool.not_eq_false', ge_iff_le, gt_iff_lt, ne_eq, bne_iff_ne, bne_eq_false_iff_eq] at *
    all_goals omega
  · rename_i h
    have hge : x.length ≤ i := by have := of_decide_eq_false h; omega
    rw [List.take_of_length_le hge] at hp
    refine Tr.exit ?_
    repeat' (first|refine zS ?_|refine zR ?_|refine zE tab_ok rfl rfl ?_|refine zN ?_|(refine zG rfl rfl (fun _ => ?_) fun _ => ?_)<;>refine zE tab_ok rfl rfl ?_|(refine zC rfl (fun _ => ?_) fun _ => ?_)<;>try (rename_i h; cases h; done)|refine zB ?_|refine zK ?_|refine zZ ⟨_, rfl, ?_⟩)
    show bool _ = bool _
    rw [hN, hp, hp0 (by omega)]; rfl
end Go.Lg.Tryz

set_option linter.unusedVariables false
set_option linter.unusedSimpArgs false
namespace Go.Lg.Tryz
open Go Go.Proofs Go.RowKit Go.Lib Go.Lg.Sem
abbrev svcH (s : Svc) : Store := [(.e 0, .blk 72 [str s.name, .tr (.ls (s.rels.map rlsT))])]
theorem svcH_e (s : Svc) : ∀ κ u, lk (svcH s) κ = some u → ∃ j, κ = .e j := fun κ u h => ⟨0, (lk1 h).1⟩
theorem svcH_r (s : Svc) : ∀ κ ty cells, lk (svcH s) κ = some (.blk ty cells) → ExtOnly cells := fun κ ty cells h => by
  obtain ⟨_, h2⟩ := lk1 h
  injection h2 with h3 h4
  subst h4
  intro x hx κ hr
  simp only [List.mem_cons, List.not_mem_nil, or_false] at hx
  rcases hx with rfl | rfl <;> cases hr
def sameN (s o : Svc) : Bool := o.name.data.toList == s.name.data.toList
theorem svc1_ok (s o : Svc) : Fn Tryz.prog Gw 56 [.tr (svcT o), .ptr (.e 0) 0] (svcH s) (· = bool (sameN s o)) := by
  refine Fn.of tab_ok Tryz.func56 rfl (by decide) (by simp [Tryz.f56]) rfl (fun κ v h => (lk1 h).1 ▸ rfl) Gw.below ?_
  repeat' (first|refine zS ?_|refine zR ?_|refine zE tab_ok rfl rfl ?_|refine zN ?_|(refine zG rfl rfl (fun _ => ?_) fun _ => ?_)<;>refine zE tab_ok rfl rfl ?_|(refine zC rfl (fun _ => ?_) fun _ => ?_)<;>try (rename_i h; cases h; done)|refine zB ?_|refine zK ?_|refine zZ ⟨_, rfl, ?_⟩)
  show bool _ = bool _
  unfold sameN
  rw [ba_toList, ba_toList]
theorem service_ok (c : Ctl) (i : Nat) (s : Svc) (hs : c[i]? = some s) (hc : c.length ≤ 1000000) (hn : s.name.size ≤ 1000000000) :
    Fn Tryz.prog Gw 31 [.tr (ctlT c), int i] [] (· = int (svcV c i)) := by
  have hlt : i < c.length := (List.getElem?_eq_some_iff.1 hs).1
  have hse : (c.map svcT)[((i : Nat) : Int).toNat]? = some (svcT s) := by simp [hs]
  have hN := named_ok s.name hn
  have hV : svcV c i = if nameB s.name = false then 30 else if (c.take i).any (sameN s) then 31 else if s.rels.length < 1 ∨ s.rels.length > 12 then 36 else 0 := by unfold svcV; rw [hs]; rfl
  have hA := containsSvc 56 [.ptr (.e 0) 0] (svcH s) svcT (sameN s) ptr_ext (svcH_e s) (svcH_r s) (c.take i) (fun o _ => ⟨svc_el o, svc1_ok s o⟩) (by rw [List.length_take]; omega)
  rw [hV]
  generalize (c.take i).any (sameN s) = B at *
  cases h1 : nameB s.name
  · rw [h1] at hN
    refine Fn.of tab_ok Tryz.func31 rfl (by decide) (by simp [Tryz.f31]) rfl (fun κ v h => by cases h) Gw.below ?_
    repeat' (first|refine zS ?_|refine zR ?_|refine zE tab_ok rfl rfl ?_|refine zN ?_|(refine zG rfl rfl (fun _ => ?_) fun _ => ?_)<;>refine zE tab_ok rfl rfl ?_|(refine zC rfl (fun _ => ?_) fun _ => ?_)<;>try (rename_i h; cases h; done)|refine zB ?_|refine zK ?_|refine zZ ⟨_, rfl, ?_⟩)
    refine zI (x := svcT s) tab_ok rfl (by omega) (hse) rfl ?_
    repeat' (first|refine zS ?_|refine zR ?_|refine zE tab_ok rfl rfl ?_|refine zN ?_|(refine zG rfl rfl (fun _ => ?_) fun _ => ?_)<;>refine zE tab_ok rfl rfl ?_|(refine zC rfl (fun _ => ?_) fun _ => ?_)<;>try (rename_i h; cases h; done)|refine zB ?_|refine zK ?_|refine zZ ⟨_, rfl, ?_⟩)
    refine Sq.callv rfl (hN) ?_
    repeat' (first|refine zS ?_|refine zR ?_|refine zE tab_ok rfl rfl ?_|refine zN ?_|(refine zG rfl rfl (fun _ => ?_) fun _ => ?_)<;>refine zE tab_ok rfl rfl ?_|(refine zC rfl (fun _ => ?_) fun _ => ?_)<;>try (rename_i h; cases h; done)|refine zB ?_|refine zK ?_|refine zZ ⟨_, rfl, ?_⟩)
    rfl
  · rw [h1] at hN
    refine Fn.of tab_ok Tryz.func31 rfl (by decide) (by simp [Tryz.f31]) rfl (fun κ v h => by cases h) Gw.below ?_
    repeat' (first|refine zS ?_|refine zR ?_|refine zE tab_ok rfl rfl ?_|refine zN ?_|(refine zG rfl rfl (fun _ => ?_) fun _ => ?_)<;>refine zE tab_ok rfl rfl ?_|(refine zC rfl (fun _ => ?_) fun _ => ?_)<;>try (rename_i h; cases h; done)|refine zB ?_|refine zK ?_|refine zZ ⟨_, rfl, ?_⟩)
    refine zI (x := svcT s) tab_ok rfl (by omega) (hse) rfl ?_
    repeat' (first|refine zS ?_|refine zR ?_|refine zE tab_ok rfl rfl ?_|refine zN ?_|(refine zG rfl rfl (fun _ => ?_) fun _ => ?_)<;>refine zE tab_ok rfl rfl ?_|(refine zC rfl (fun _ => ?_) fun _ => ?_)<;>try (rename_i h; cases h; done)|refine zB ?_|refine zK ?_|refine zZ ⟨_, rfl, ?_⟩)
    refine Sq.callv rfl (hN) ?_
    repeat' (first|refine zS ?_|refine zR ?_|refine zE tab_ok rfl rfl ?_|refine zN ?_|(refine zG rfl rfl (fun _ => ?_) fun _ => ?_)<;>refine zE tab_ok rfl rfl ?_|(refine zC rfl (fun _ => ?_) fun _ => ?_)<;>try (rename_i h; cases h; done)|refine zB ?_|refine zK ?_|refine zZ ⟨_, rfl, ?_⟩)
    refine Sq.part tab_ok rfl (fun x hx => by obtain ⟨y, _, rfl⟩ := List.mem_map.1 hx; rfl) (by show (0 : Int) ≤ 0; omega) (by show (0 : Int) ≤ (i : Int); omega) (by show (i : Int) ≤ ((c.map svcT).length : Int); rw [List.length_map]; omega) ?_
    have hxx : ((c.map svcT).drop (Bd.lo .no).toNat).take ((Bd.hi (c.map svcT).length (.at (i : Int))).toNat - (Bd.lo .no).toNat) = (c.take i).map svcT := by
      show ((c.map svcT).drop 0).take (((i : Nat) : Int).toNat - 0) = _
      simp [List.map_take]
    rw [hxx]
    repeat' (first|refine zS ?_|refine zR ?_|refine zE tab_ok rfl rfl ?_|refine zN ?_|(refine zG rfl rfl (fun _ => ?_) fun _ => ?_)<;>refine zE tab_ok rfl rfl ?_|(refine zC rfl (fun _ => ?_) fun _ => ?_)<;>try (rename_i h; cases h; done)|refine zB ?_|refine zK ?_|refine zZ ⟨_, rfl, ?_⟩)
    cases B
    · refine Sq.callv rfl (hA) ?_
      repeat' (first|refine zS ?_|refine zR ?_|refine zE tab_ok rfl rfl ?_|refine zN ?_|(refine zG rfl rfl (fun _ => ?_) fun _ => ?_)<;>refine zE tab_ok rfl rfl ?_|(refine zC rfl (fun _ => ?_) fun _ => ?_)<;>try (rename_i h; cases h; done)|refine zB ?_|refine zK ?_|refine zZ ⟨_, rfl, ?_⟩)
      · rename_i h5 _
        have h5 : decide (((s.rels.map rlsT).length : Int) < 1) = true := h5
        simp only [List.length_map, decide_eq_true_eq] at h5
        show int _ = int _
        rw [if_neg (by decide), if_neg (by decide), if_pos (by omega)]
      · rename_i h5
        have h5 : decide (((s.rels.map rlsT).length : Int) > 12) = true := h5
        simp only [List.length_map, decide_eq_true_eq] at h5
        show int _ = int _
        rw [if_neg (by decide), if_neg (by decide), if_pos (by omega)]
      · rename_i h4 h5
        have h4 : decide (((s.rels.map rlsT).length : Int) < 1) = false := h4
        have h5 : decide (((s.rels.map rlsT).length : Int) > 12) = false := h5
        simp only [List.length_map, decide_eq_false_iff_not] at h4 h5
        show int _ = int _
        rw [if_neg (by decide), if_neg (by decide), if_neg (by omega)]
    · refine Sq.callv rfl (hA) ?_
      repeat' (first|refine zS ?_|refine zR ?_|refine zE tab_ok rfl rfl ?_|refine zN ?_|(refine zG rfl rfl (fun _ => ?_) fun _ => ?_)<;>refine zE tab_ok rfl rfl ?_|(refine zC rfl (fun _ => ?_) fun _ => ?_)<;>try (rename_i h; cases h; done)|refine zB ?_|refine zK ?_|refine zZ ⟨_, rfl, ?_⟩)
      rfl
theorem refService_ok (c : Ctl) (i : Nat) (s : Svc) (hs : c[i]? = some s) (hc : c.length ≤ 1000000) (hn : s.name.size ≤ 1000000000) :
    Fn Tryz.prog Gw 33 [.tr (ctlT c), int i] [] (· = int (svcV c i)) := by
  have hlt : i < c.length := (List.getElem?_eq_some_iff.1 hs).1
  have hse : (c.map svcT)[((i : Nat) : Int).toNat]? = some (svcT s) := by simp [hs]
  have hN := Name_ok s.name hn
  have hV : svcV c i = if nameB s.name = false then 30 else if (c.take i).any (sameN s) then 31 else if s.rels.length < 1 ∨ s.rels.length > 12 then 36 else 0 := by unfold svcV; rw [hs]; rfl
  rw [hV]
  cases h1 : nameB s.name
  · rw [h1] at hN
    refine Fn.of tab_ok Tryz.func33 rfl (by decide) (by simp [Tryz.f33]) rfl (fun κ v h => by cases h) Gw.below ?_
    repeat' (first|refine zS ?_|refine zR ?_|refine zE tab_ok rfl rfl ?_|refine zN ?_|(refine zG rfl rfl (fun _ => ?_) fun _ => ?_)<;>refine zE tab_ok rfl rfl ?_|(refine zC rfl (fun _ => ?_) fun _ => ?_)<;>try (rename_i h; cases h; done)|refine zB ?_|refine zK ?_|refine zZ ⟨_, rfl, ?_⟩)
    refine zI (x := svcT s) tab_ok rfl (by omega) (hse) rfl ?_
    repeat' (first|refine zS ?_|refine zR ?_|refine zE tab_ok rfl rfl ?_|refine zN ?_|(refine zG rfl rfl (fun _ => ?_) fun _ => ?_)<;>refine zE tab_ok rfl rfl ?_|(refine zC rfl (fun _ => ?_) fun _ => ?_)<;>try (rename_i h; cases h; done)|refine zB ?_|refine zK ?_|refine zZ ⟨_, rfl, ?_⟩)
    refine Sq.callv rfl (hN) ?_
    repeat' (first|refine zS ?_|refine zR ?_|refine zE tab_ok rfl rfl ?_|refine zN ?_|(refine zG rfl rfl (fun _ => ?_) fun _ => ?_)<;>refine zE tab_ok rfl rfl ?_|(refine zC rfl (fun _ => ?_) fun _ => ?_)<;>try (rename_i h; cases h; done)|refine zB ?_|refine zK ?_|refine zZ ⟨_, rfl, ?_⟩)
    rfl
  · rw [h1] at hN
    refine Fn.of tab_ok Tryz.func33 rfl (by decide) (by simp [Tryz.f33]) rfl (fun κ v h => by cases h) Gw.below ?_
    repeat' (first|refine zS ?_|refine zR ?_|refine zE tab_ok rfl rfl ?_|refine zN ?_|(refine zG rfl rfl (fun _ => ?_) fun _ => ?_)<;>refine zE tab_ok rfl rfl ?_|(refine zC rfl (fun _ => ?_) fun _ => ?_)<;>try (rename_i h; cases h; done)|refine zB ?_|refine zK ?_|refine zZ ⟨_, rfl, ?_⟩)
    refine zI (x := svcT s) tab_ok rfl (by omega) (hse) rfl ?_
    repeat' (first|refine zS ?_|refine zR ?_|refine zE tab_ok rfl rfl ?_|refine zN ?_|(refine zG rfl rfl (fun _ => ?_) fun _ => ?_)<;>refine zE tab_ok rfl rfl ?_|(refine zC rfl (fun _ => ?_) fun _ => ?_)<;>try (rename_i h; cases h; done)|refine zB ?_|refine zK ?_|refine zZ ⟨_, rfl, ?_⟩)
    refine Sq.callv rfl (hN) ?_
    repeat' (first|refine zS ?_|refine zR ?_|refine zE tab_ok rfl rfl ?_|refine zN ?_|(refine zG rfl rfl (fun _ => ?_) fun _ => ?_)<;>refine zE tab_ok rfl rfl ?_|(refine zC rfl (fun _ => ?_) fun _ => ?_)<;>try (rename_i h; cases h; done)|refine zB ?_|refine zK ?_|refine zZ ⟨_, rfl, ?_⟩)
    refine Tr.loopS (fun k : Nat => [(.s 1, int i), (.s 2, .ptr (.l 2) 0), (.l 2, .blk 28 [.tr (.ls (c.map svcT))]), (.s 5, .ptr (.l 5) 0), (.l 5, .blk 52 [str s.name, .tr (.ls (s.rels.map rlsT))]), (.s 6, int k)]) (fun k => i - k) (fun k => k ≤ i ∧ (c.take k).any (sameN s) = false)
      0 ⟨by omega, by simp⟩ (Sub.app (l := [_, _, _, _, _, _]) (H := []) ⟨rfl, rfl, rfl, rfl, rfl, rfl, trivial⟩ (fun κ v h => nomatch h)) ?_
    rintro k ⟨hk, hp⟩
    repeat' (first|refine zS ?_|refine zR ?_|refine zE tab_ok rfl rfl ?_|refine zN ?_|(refine zG rfl rfl (fun _ => ?_) fun _ => ?_)<;>refine zE tab_ok rfl rfl ?_|(refine zC rfl (fun _ => ?_) fun _ => ?_)<;>try (rename_i h; cases h; done)|refine zB ?_|refine zK ?_|refine zZ ⟨_, rfl, ?_⟩)
    · rename_i h2
      have hlt2 : k < i := by have := of_decide_eq_true h2; omega
      obtain ⟨o, ho⟩ : ∃ o, c[k]? = some o := ⟨_, List.getElem?_eq_getElem (by omega)⟩
      have hoe : (c.map svcT)[((k : Nat) : Int).toNat]? = some (svcT o) := by simp [ho]
      have hok : c[k] = o := by rw [List.getElem?_eq_getElem (by omega)] at ho; exact Option.some.inj ho
      have heq : (o.name.toList == s.name.toList) = sameN s o := by unfold sameN; rw [ba_toList, ba_toList]
      refine Tr.drawn ( zD tab_ok rfl rfl <| zD tab_ok rfl rfl <| zD tab_ok rfl rfl <| zO rfl (fun q K hK => zI (x := svcT o) tab_ok rfl (by omega) (hoe) rfl (zN hK)) <| zD tab_ok rfl rfl <| zD tab_ok rfl rfl <| zD tab_ok rfl rfl <| zD tab_ok rfl rfl <| DSq.evr tab_ok rfl (congrArg bool heq) <| DSq.nil _) mix_ok rfl ?_
      repeat' (first|refine zS ?_|refine zR ?_|refine zE tab_ok rfl rfl ?_|refine zN ?_|(refine zG rfl rfl (fun _ => ?_) fun _ => ?_)<;>refine zE tab_ok rfl rfl ?_|(refine zC rfl (fun _ => ?_) fun _ => ?_)<;>try (rename_i h; cases h; done)|refine zB ?_|refine zK ?_|refine zZ ⟨_, rfl, ?_⟩)
      · rename_i h3
        have h3 : sameN s o = true := h3
        show int _ = int _
        have : (c.take i).any (sameN s) = true := List.any_eq_true.2 ⟨o, List.mem_of_getElem? (i := k) (by rw [List.getElem?_take, if_pos hlt2]; exact ho), h3⟩
        rw [if_neg (by decide), if_pos this]
      · rename_i h3
        have h3 : sameN s o = false := h3
        refine ⟨k + 1, ⟨by omega, ?_⟩, by omega, Sub.app (l := [_, _, _, _, _, _]) (H := []) ⟨rfl, rfl, rfl, rfl, rfl, congrArg some (wrapz (by omega) (by omega) (by omega)), trivial⟩ (fun κ v h => nomatch h)⟩
        rw [List.take_succ_eq_append_getElem (by omega), List.any_append, hp, hok]
        simp [h3]
    · rename_i h2
      have hge : k = i := by have := of_decide_eq_false h2; omega
      subst hge
      rw [hp]
      refine Tr.exit ?_
      repeat' (first|refine zS ?_|refine zR ?_|refine zE tab_ok rfl rfl ?_|refine zN ?_|(refine zG rfl rfl (fun _ => ?_) fun _ => ?_)<;>refine zE tab_ok rfl rfl ?_|(refine zC rfl (fun _ => ?_) fun _ => ?_)<;>try (rename_i h; cases h; done)|refine zB ?_|refine zK ?_|refine zZ ⟨_, rfl, ?_⟩)
      · rename_i h5 _
        have h5 : decide (((s.rels.map rlsT).length : Int) < 1) = true := h5
        simp only [List.length_map, decide_eq_true_eq] at h5
        show int _ = int _
        rw [if_neg (by decide), if_neg (by decide), if_pos (by omega)]
      · rename_i h5
        have h5 : decide (((s.rels.map rlsT).length : Int) > 12) = true := h5
        simp only [List.length_map, decide_eq_true_eq] at h5
        show int _ = int _
        rw [if_neg (by decide), if_neg (by decide), if_pos (by omega)]
      · rename_i h4 h5
        have h4 : decide (((s.rels.map rlsT).length : Int) < 1) = false := h4
        have h5 : decide (((s.rels.map rlsT).length : Int) > 12) = false := h5
        simp only [List.length_map, decide_eq_false_iff_not] at h4 h5
        show int _ = int _
        rw [if_neg (by decide), if_neg (by decide), if_neg (by omega)]
end Go.Lg.Tryz

set_option linter.unusedVariables false
set_option linter.unusedSimpArgs false
namespace Go.Lg.Tryz
open Go Go.Proofs Go.RowKit Go.Lib Go.Lg.Sem
abbrev ndH (s : Nd) : Store := [(.e 0, .blk 83 [int s.s, .tr (.ls (s.r.map cmpsT))])]
theorem ndH_e (s : Nd) : ∀ κ u, lk (ndH s) κ = some u → ∃ j, κ = .e j := fun κ u h => ⟨0, (lk1 h).1⟩
theorem ndH_r (s : Nd) : ∀ κ ty cells, lk (ndH s) κ = some (.blk ty cells) → ExtOnly cells := fun κ ty cells h => by
  obtain ⟨_, h2⟩ := lk1 h
  injection h2 with h3 h4
  subst h4
  intro x hx κ hr
  simp only [List.mem_cons, List.not_mem_nil, or_false] at hx
  rcases hx with rfl | rfl <;> cases hr
theorem needs1_ok (n o : Nd) : Fn Tryz.prog Gw 82 [.tr (ndT o), .ptr (.e 0) 0] (ndH n) (· = bool (o.s == n.s)) := by
  refine Fn.of tab_ok Tryz.func82 rfl (by decide) (by simp [Tryz.f82]) rfl (fun κ v h => (lk1 h).1 ▸ rfl) Gw.below ?_
  repeat' (first|refine zS ?_|refine zR ?_|refine zE tab_ok rfl rfl ?_|refine zN ?_|(refine zG rfl rfl (fun _ => ?_) fun _ => ?_)<;>refine zE tab_ok rfl rfl ?_|(refine zC rfl (fun _ => ?_) fun _ => ?_)<;>try (rename_i h; cases h; done)|refine zB ?_|refine zK ?_|refine zZ ⟨_, rfl, ?_⟩)
  rfl
theorem needs_ok (c : Ctl) (i : Int) (l : List Nd) (hl : l.length ≤ 1000000) (hn : ∀ n, n ∈ l → n.r.ok ∧ n.r.length ≤ 1000000) :
    Fn Tryz.prog Gw 59 [.tr (ctlT c), int i, .tr (.ls (l.map ndT))] [] (· = int (needsV c.length i l)) := by
  refine Fn.of tab_ok Tryz.func59 rfl (by decide) (by simp [Tryz.f59]) rfl (fun κ v h => by cases h) Gw.below ?_
  repeat' (first|refine zS ?_|refine zR ?_|refine zE tab_ok rfl rfl ?_|refine zN ?_|(refine zG rfl rfl (fun _ => ?_) fun _ => ?_)<;>refine zE tab_ok rfl rfl ?_|(refine zC rfl (fun _ => ?_) fun _ => ?_)<;>try (rename_i h; cases h; done)|refine zB ?_|refine zK ?_|refine zZ ⟨_, rfl, ?_⟩)
  refine Tr.loopS (fun k : Nat => [(.s 1, int i), (.s 2, .tr (.ls (l.map ndT))), (.s 3, .ptr (.l 3) 0), (.l 3, .blk 24 [.tr (.ls (c.map svcT))]), (.s 9, .tr (.ls (l.map ndT))), (.s 10, int (l.map ndT).length), (.s 11, int k)]) (fun k => l.length - k) (fun k => k ≤ l.length ∧ ∀ j, j < k → needAt c.length i l j = 0)
    0 ⟨by omega, by intro j hj; omega⟩ (Sub.app (l := [_, _, _, _, _, _, _]) (H := []) ⟨rfl, rfl, rfl, rfl, rfl, rfl, rfl, trivial⟩ (fun κ v h => nomatch h)) ?_
  rintro k ⟨hk, hp⟩
  repeat' (first|refine zS ?_|refine zR ?_|refine zE tab_ok rfl rfl ?_|refine zN ?_|(refine zG rfl rfl (fun _ => ?_) fun _ => ?_)<;>refine zE tab_ok rfl rfl ?_|(refine zC rfl (fun _ => ?_) fun _ => ?_)<;>try (rename_i h; cases h; done)|refine zB ?_|refine zK ?_|refine zZ ⟨_, rfl, ?_⟩)
  · rename_i h
    have hlt : k < l.length := by simp only [List.length_map, decide_eq_true_eq] at h; omega
    obtain ⟨n, hx⟩ : ∃ n, l[k]? = some n := ⟨_, List.getElem?_eq_getElem hlt⟩
    have hxm : n ∈ l := List.mem_of_getElem? hx
    have hxe : (l.map ndT)[((k : Nat) : Int).toNat]? = some (ndT n) := by simp [hx]
    have hA : needAt c.length i l k = if n.s < 0 ∨ n.s ≥ c.length ∨ n.s = i then 33 else if (l.take k).any (fun o => o.s == n.s) then 31 else if rngRight n.r = false then 12 else 0 := by unfold needAt; rw [hx]
    have bad : ∀ e, needAt c.length i l k = e → e ≠ 0 → int e = int (needsV c.length i l) := fun e h1 h2 => by
      have : needsV c.length i l = needAt c.length i l k := firstE_at hlt hp (by rw [h1]; exact h2)
      rw [this, h1]
    have hC := containsNd 82 [.ptr (.e 0) 0] (ndH n) ndT (fun o => o.s == n.s) ptr_ext (ndH_e n) (ndH_r n) (l.take k) (fun o _ => ⟨nd_el o, needs1_ok n o⟩) (by rw [List.length_take]; omega)
    have hR := rngRight_ok n.r (hn n hxm).1 (by have := (hn n hxm).2; omega)
    generalize (l.take k).any (fun o => o.s == n.s) = B at *
    generalize rngRight n.r = B2 at *
    refine zI (x := ndT n) tab_ok rfl (by omega) (hxe) rfl ?_
    repeat' (first|refine zS ?_|refine zR ?_|refine zE tab_ok rfl rfl ?_|refine zN ?_|(refine zG rfl rfl (fun _ => ?_) fun _ => ?_)<;>refine zE tab_ok rfl rfl ?_|(refine zC rfl (fun _ => ?_) fun _ => ?_)<;>try (rename_i h; cases h; done)|refine zB ?_|refine zK ?_|refine zZ ⟨_, rfl, ?_⟩)
    · rename_i h1 _
      have h1 := of_decide_eq_true h1
      exact bad 33 (by rw [hA, if_pos (by omega)]) (by decide)
    · rename_i h1 _
      have h1 : decide (n.s ≥ ((c.map svcT).length : Int)) = true := h1
      rw [List.length_map] at h1
      have h1 := of_decide_eq_true h1
      exact bad 33 (by rw [hA, if_pos (by omega)]) (by decide)
    · rename_i h1
      have h1 : (n.s == i) = true := h1
      have h1 := eq_of_beq h1
      exact bad 33 (by rw [hA, if_pos (by omega)]) (by decide)
    rename_i h1 h2 h3
    have h1 := of_decide_eq_false h1
    have h2 : decide (n.s ≥ ((c.map svcT).length : Int)) = false := h2
    rw [List.length_map] at h2
    have h2 := of_decide_eq_false h2
    have h3 : (n.s == i) = false := h3
    have h3 := ne_of_beq_false h3
    rw [if_neg (by omega)] at hA
    refine Sq.part tab_ok rfl (fun x hx => by obtain ⟨y, _, rfl⟩ := List.mem_map.1 hx; rfl) (by show (0 : Int) ≤ 0; omega) (by show (0 : Int) ≤ (k : Int); omega) (by show (k : Int) ≤ ((l.map ndT).length : Int); rw [List.length_map]; omega) ?_
    have hxx : ((l.map ndT).drop (Bd.lo .no).toNat).take ((Bd.hi (l.map ndT).length (.at (k : Int))).toNat - (Bd.lo .no).toNat) = (l.take k).map ndT := by
      show ((l.map ndT).drop 0).take (((k : Nat) : Int).toNat - 0) = _
      simp [List.map_take]
    rw [hxx]
    repeat' (first|refine zS ?_|refine zR ?_|refine zE tab_ok rfl rfl ?_|refine zN ?_|(refine zG rfl rfl (fun _ => ?_) fun _ => ?_)<;>refine zE tab_ok rfl rfl ?_|(refine zC rfl (fun _ => ?_) fun _ => ?_)<;>try (rename_i h; cases h; done)|refine zB ?_|refine zK ?_|refine zZ ⟨_, rfl, ?_⟩)
    cases B
    · refine Sq.callv rfl (hC) ?_
      repeat' (first|refine zS ?_|refine zR ?_|refine zE tab_ok rfl rfl ?_|refine zN ?_|(refine zG rfl rfl (fun _ => ?_) fun _ => ?_)<;>refine zE tab_ok rfl rfl ?_|(refine zC rfl (fun _ => ?_) fun _ => ?_)<;>try (rename_i h; cases h; done)|refine zB ?_|refine zK ?_|refine zZ ⟨_, rfl, ?_⟩)
      cases B2
      · refine Sq.callv rfl (hR) ?_
        repeat' (first|refine zS ?_|refine zR ?_|refine zE tab_ok rfl rfl ?_|refine zN ?_|(refine zG rfl rfl (fun _ => ?_) fun _ => ?_)<;>refine zE tab_ok rfl rfl ?_|(refine zC rfl (fun _ => ?_) fun _ => ?_)<;>try (rename_i h; cases h; done)|refine zB ?_|refine zK ?_|refine zZ ⟨_, rfl, ?_⟩)
        exact bad 12 (by rw [hA]; rfl) (by decide)
      · refine Sq.callv rfl (hR) ?_
        repeat' (first|refine zS ?_|refine zR ?_|refine zE tab_ok rfl rfl ?_|refine zN ?_|(refine zG rfl rfl (fun _ => ?_) fun _ => ?_)<;>refine zE tab_ok rfl rfl ?_|(refine zC rfl (fun _ => ?_) fun _ => ?_)<;>try (rename_i h; cases h; done)|refine zB ?_|refine zK ?_|refine zZ ⟨_, rfl, ?_⟩)
        exact ⟨k + 1, ⟨by omega, fun j hj => by
          rcases Nat.lt_succ_iff_lt_or_eq.1 hj with h | rfl
          · exact hp j h
          · rw [hA]; rfl⟩, by omega, Sub.app (l := [_, _, _, _, _, _, _]) (H := []) ⟨rfl, rfl, rfl, rfl, rfl, rfl, congrArg some (wrapz (by omega) (by omega) (by omega)), trivial⟩ (fun κ v h => nomatch h)⟩
    · refine Sq.callv rfl (hC) ?_
      repeat' (first|refine zS ?_|refine zR ?_|refine zE tab_ok rfl rfl ?_|refine zN ?_|(refine zG rfl rfl (fun _ => ?_) fun _ => ?_)<;>refine zE tab_ok rfl rfl ?_|(refine zC rfl (fun _ => ?_) fun _ => ?_)<;>try (rename_i h; cases h; done)|refine zB ?_|refine zK ?_|refine zZ ⟨_, rfl, ?_⟩)
      exact bad 31 (by rw [hA]; rfl) (by decide)
  · rename_i h
    have hge : l.length ≤ k := by simp only [List.length_map, decide_eq_false_iff_not] at h; omega
    refine Tr.exit ?_
    repeat' (first|refine zS ?_|refine zR ?_|refine zE tab_ok rfl rfl ?_|refine zN ?_|(refine zG rfl rfl (fun _ => ?_) fun _ => ?_)<;>refine zE tab_ok rfl rfl ?_|(refine zC rfl (fun _ => ?_) fun _ => ?_)<;>try (rename_i h; cases h; done)|refine zB ?_|refine zK ?_|refine zZ ⟨_, rfl, ?_⟩)
    show int _ = int _
    rw [show needsV c.length i l = 0 from firstE_none fun j hj => hp j (by omega)]
end Go.Lg.Tryz

set_option linter.unusedVariables false
set_option linter.unusedSimpArgs false
namespace Go.Lg.Tryz
open Go Go.Proofs Go.RowKit Go.Lib Go.Lg.Sem
theorem cmpVer_rng (v w : Ver) : cmpVer v w = -1 ∨ cmpVer v w = 0 ∨ cmpVer v w = 1 := by
  rw [cmpVer_eq]
  split
  · split
    · split
      · exact ordP.rng _ _
      · exact cmpI_rng _ _
    · exact cmpI_rng _ _
  · exact cmpI_rng _ _
theorem prev_zero (s : Svc) (p : Rls → Bool) : prevB s 0 p = false := rfl
theorem prev_succ {s : Svc} {k : Nat} {q : Rls} (h : s.rels[k]? = some q) (p : Rls → Bool) : prevB s (k + 1) p = p q := by
  unfold prevB
  rw [decide_eq_true (by omega), Nat.add_sub_cancel, h]; rfl
set_option maxRecDepth 8192 in
theorem release_ok {c : Ctl} (h : Ctl.ok c) (i k : Nat) (s : Svc) (r : Rls) (hs : c[i]? = some s) (hr : s.rels[k]? = some r) : Fn Tryz.prog Gw 32 [.tr (ctlT c), int i, int k] [] (· = int (relV c i k)) := by
  have hsm : s ∈ c := List.mem_of_getElem? hs
  have hrm : r ∈ s.rels := List.mem_of_getElem? hr
  obtain ⟨hr1, hr2, hr3⟩ := (h.2 s hsm).2 r hrm
  have hklt := (List.getElem?_eq_some_iff.1 hr).1
  have hkz := (h.2 s hsm).1
  have hse : (c.map svcT)[((i : Nat) : Int).toNat]? = some (svcT s) := by simp [hs]
  have hre : (s.rels.map rlsT)[((k : Nat) : Int).toNat]? = some (rlsT r) := by simp [hr]
  have hN := needs_ok c i r.needs hr1 hr3
  have hV : relV c i k = if r.v.right = false then 34 else if prevB s k (fun q => cmpVer q.v r.v != -1) = true then 32
      else if r.level < 0 ∨ r.level > 1000 ∨ prevB s k (fun q => decide (r.level < q.level)) = true then 35 else if r.needs.length > 8 then 36 else needsV c.length i r.needs := by
    unfold relV; rw [hs]; simp only; rw [hr]
  rw [hV]
  clear hV
  have hR := rightAny_ok r.v (by have : r.v.p.size ≤ 1000000000 := hr2; omega)
  generalize needsV c.length i r.needs = E at *
  cases hv : r.v.right
  · rw [hv] at hR
    refine Fn.of tab_ok Tryz.func32 rfl (by decide) (by simp [Tryz.f32]) rfl (fun κ v h => by cases h) Gw.below ?_
    repeat' (first|refine zS ?_|refine zR ?_|refine zE tab_ok rfl rfl ?_|refine zN ?_|(refine zG rfl rfl (fun _ => ?_) fun _ => ?_)<;>refine zE tab_ok rfl rfl ?_|(refine zC rfl (fun _ => ?_) fun _ => ?_)<;>try (rename_i h; cases h; done)|refine zB ?_|refine zK ?_|refine zZ ⟨_, rfl, ?_⟩)
    refine zI (x := svcT s) tab_ok rfl (by omega) (hse) rfl ?_
    repeat' (first|refine zS ?_|refine zR ?_|refine zE tab_ok rfl rfl ?_|refine zN ?_|(refine zG rfl rfl (fun _ => ?_) fun _ => ?_)<;>refine zE tab_ok rfl rfl ?_|(refine zC rfl (fun _ => ?_) fun _ => ?_)<;>try (rename_i h; cases h; done)|refine zB ?_|refine zK ?_|refine zZ ⟨_, rfl, ?_⟩)
    refine zI (x := rlsT r) tab_ok rfl (by omega) (hre) rfl ?_
    repeat' (first|refine zS ?_|refine zR ?_|refine zE tab_ok rfl rfl ?_|refine zN ?_|(refine zG rfl rfl (fun _ => ?_) fun _ => ?_)<;>refine zE tab_ok rfl rfl ?_|(refine zC rfl (fun _ => ?_) fun _ => ?_)<;>try (rename_i h; cases h; done)|refine zB ?_|refine zK ?_|refine zZ ⟨_, rfl, ?_⟩)
    refine Sq.callv rfl (hR) ?_
    repeat' (first|refine zS ?_|refine zR ?_|refine zE tab_ok rfl rfl ?_|refine zN ?_|(refine zG rfl rfl (fun _ => ?_) fun _ => ?_)<;>refine zE tab_ok rfl rfl ?_|(refine zC rfl (fun _ => ?_) fun _ => ?_)<;>try (rename_i h; cases h; done)|refine zB ?_|refine zK ?_|refine zZ ⟨_, rfl, ?_⟩)
    rfl
  rw [hv] at hR
  rw [if_neg (by decide)]
  rcases k with _ | k
  · rw [prev_zero, prev_zero, if_neg (by decide)]
    have hk : decide (((0 : Nat) : Int) > 0) = false := rfl
    refine Fn.of tab_ok Tryz.func32 rfl (by decide) (by simp [Tryz.f32]) rfl (fun κ v h => by cases h) Gw.below ?_
    repeat' (first|refine zS ?_|refine zR ?_|refine zE tab_ok rfl rfl ?_|refine zN ?_|(refine zG rfl rfl (fun _ => ?_) fun _ => ?_)<;>refine zE tab_ok rfl rfl ?_|(refine zC rfl (fun _ => ?_) fun _ => ?_)<;>try (rename_i h; cases h; done)|refine zB ?_|refine zK ?_|refine zZ ⟨_, rfl, ?_⟩)
    refine zI (x := svcT s) tab_ok rfl (by omega) (hse) rfl ?_
    repeat' (first|refine zS ?_|refine zR ?_|refine zE tab_ok rfl rfl ?_|refine zN ?_|(refine zG rfl rfl (fun _ => ?_) fun _ => ?_)<;>refine zE tab_ok rfl rfl ?_|(refine zC rfl (fun _ => ?_) fun _ => ?_)<;>try (rename_i h; cases h; done)|refine zB ?_|refine zK ?_|refine zZ ⟨_, rfl, ?_⟩)
    refine zI (x := rlsT r) tab_ok rfl (by omega) (hre) rfl ?_
    repeat' (first|refine zS ?_|refine zR ?_|refine zE tab_ok rfl rfl ?_|refine zN ?_|(refine zG rfl rfl (fun _ => ?_) fun _ => ?_)<;>refine zE tab_ok rfl rfl ?_|(refine zC rfl (fun _ => ?_) fun _ => ?_)<;>try (rename_i h; cases h; done)|refine zB ?_|refine zK ?_|refine zZ ⟨_, rfl, ?_⟩)
    refine Sq.callv rfl (hR) ?_
    repeat' (first|refine zS ?_|refine zR ?_|refine zE tab_ok rfl rfl ?_|refine zN ?_|(refine zG rfl rfl (fun _ => ?_) fun _ => ?_)<;>refine zE tab_ok rfl rfl ?_|(refine zC rfl (fun _ => ?_) fun _ => ?_)<;>try (rename_i h; cases h; done)|refine zB ?_|refine zK ?_|refine zZ ⟨_, rfl, ?_⟩)
    refine Tr.drawn ( zD tab_ok rfl rfl <| DSq.evr tab_ok rfl (congrArg bool hk) <| zD tab_ok rfl rfl <| zD tab_ok rfl rfl <| zD tab_ok rfl rfl <| zD tab_ok rfl rfl <| zD tab_ok rfl rfl <| zD tab_ok rfl rfl <| zD tab_ok rfl rfl <| zD tab_ok rfl rfl <| zD tab_ok rfl rfl <| zD tab_ok rfl rfl <| zD tab_ok rfl rfl <| zD tab_ok rfl rfl <| zD tab_ok rfl rfl <| DSq.nil _) mix_ok rfl ?_
    repeat' (first|refine zS ?_|refine zR ?_|refine zE tab_ok rfl rfl ?_|refine zN ?_|(refine zG rfl rfl (fun _ => ?_) fun _ => ?_)<;>refine zE tab_ok rfl rfl ?_|(refine zC rfl (fun _ => ?_) fun _ => ?_)<;>try (rename_i h; cases h; done)|refine zB ?_|refine zK ?_|refine zZ ⟨_, rfl, ?_⟩)
    cases hl1 : decide (r.level < 0)
    · cases hl2 : decide (r.level > 1000)
      · refine Tr.drawn ( zD tab_ok rfl rfl <| zD tab_ok rfl rfl <| DSq.evr tab_ok rfl (congrArg bool hl1) <| zD tab_ok rfl rfl <| zD tab_ok rfl rfl <| zD tab_ok rfl rfl <| DSq.evr tab_ok rfl (congrArg bool hl2) <| zD tab_ok rfl rfl <| zD tab_ok rfl rfl <| zD tab_ok rfl rfl <| DSq.evr tab_ok rfl (congrArg bool hk) <| zD tab_ok rfl rfl <| zD tab_ok rfl rfl <| zD tab_ok rfl rfl <| zD tab_ok rfl rfl <| zD tab_ok rfl rfl <| zD tab_ok rfl rfl <| zD tab_ok rfl rfl <| zD tab_ok rfl rfl <| zD tab_ok rfl rfl <| zD tab_ok rfl rfl <| zD tab_ok rfl rfl <| zD tab_ok rfl rfl <| zD tab_ok rfl rfl <| DSq.nil _) mix_ok rfl ?_
        repeat' (first|refine zS ?_|refine zR ?_|refine zE tab_ok rfl rfl ?_|refine zN ?_|(refine zG rfl rfl (fun _ => ?_) fun _ => ?_)<;>refine zE tab_ok rfl rfl ?_|(refine zC rfl (fun _ => ?_) fun _ => ?_)<;>try (rename_i h; cases h; done)|refine zB ?_|refine zK ?_|refine zZ ⟨_, rfl, ?_⟩)
        · rename_i h9
          have h9 : decide (((r.needs.map ndT).length : Int) > 8) = true := h9
          simp only [List.length_map, decide_eq_true_eq] at h9
          show int _ = int _
          rw [if_neg (by simp at hl1 hl2; simp; omega)]
          rw [if_pos (by omega)]
        · rename_i h9
          have h9 : decide (((r.needs.map ndT).length : Int) > 8) = false := h9
          simp only [List.length_map, decide_eq_false_iff_not] at h9
          rw [if_neg (by simp at hl1 hl2; simp; omega)]
          rw [if_neg (by omega)]
          refine Sq.callv rfl (hN) ?_
          repeat' (first|refine zS ?_|refine zR ?_|refine zE tab_ok rfl rfl ?_|refine zN ?_|(refine zG rfl rfl (fun _ => ?_) fun _ => ?_)<;>refine zE tab_ok rfl rfl ?_|(refine zC rfl (fun _ => ?_) fun _ => ?_)<;>try (rename_i h; cases h; done)|refine zB ?_|refine zK ?_|refine zZ ⟨_, rfl, ?_⟩)
          rfl
      · refine Tr.drawn ( zD tab_ok rfl rfl <| zD tab_ok rfl rfl <| DSq.evr tab_ok rfl (congrArg bool hl1) <| zD tab_ok rfl rfl <| zD tab_ok rfl rfl <| zD tab_ok rfl rfl <| DSq.evr tab_ok rfl (congrArg bool hl2) <| zD tab_ok rfl rfl <| zD tab_ok rfl rfl <| zD tab_ok rfl rfl <| zD tab_ok rfl rfl <| zD tab_ok rfl rfl <| zD tab_ok rfl rfl <| zD tab_ok rfl rfl <| zD tab_ok rfl rfl <| zD tab_ok rfl rfl <| zD tab_ok rfl rfl <| zD tab_ok rfl rfl <| zD tab_ok rfl rfl <| zD tab_ok rfl rfl <| zD tab_ok rfl rfl <| zD tab_ok rfl rfl <| zD tab_ok rfl rfl <| zD tab_ok rfl rfl <| DSq.nil _) mix_ok rfl ?_
        repeat' (first|refine zS ?_|refine zR ?_|refine zE tab_ok rfl rfl ?_|refine zN ?_|(refine zG rfl rfl (fun _ => ?_) fun _ => ?_)<;>refine zE tab_ok rfl rfl ?_|(refine zC rfl (fun _ => ?_) fun _ => ?_)<;>try (rename_i h; cases h; done)|refine zB ?_|refine zK ?_|refine zZ ⟨_, rfl, ?_⟩)
        show int _ = int _
        rw [if_pos (by simp at hl2; simp; omega)]
    · refine Tr.drawn ( zD tab_ok rfl rfl <| zD tab_ok rfl rfl <| DSq.evr tab_ok rfl (congrArg bool hl1) <| zD tab_ok rfl rfl <| zD tab_ok rfl rfl <| zD tab_ok rfl rfl <| zD tab_ok rfl rfl <| zD tab_ok rfl rfl <| zD tab_ok rfl rfl <| zD tab_ok rfl rfl <| zD tab_ok rfl rfl <| zD tab_ok rfl rfl <| zD tab_ok rfl rfl <| zD tab_ok rfl rfl <| zD tab_ok rfl rfl <| zD tab_ok rfl rfl <| zD tab_ok rfl rfl <| zD tab_ok rfl rfl <| zD tab_ok rfl rfl <| zD tab_ok rfl rfl <| zD tab_ok rfl rfl <| zD tab_ok rfl rfl <| zD tab_ok rfl rfl <| zD tab_ok rfl rfl <| DSq.nil _) mix_ok rfl ?_
      repeat' (first|refine zS ?_|refine zR ?_|refine zE tab_ok rfl rfl ?_|refine zN ?_|(refine zG rfl rfl (fun _ => ?_) fun _ => ?_)<;>refine zE tab_ok rfl rfl ?_|(refine zC rfl (fun _ => ?_) fun _ => ?_)<;>try (rename_i h; cases h; done)|refine zB ?_|refine zK ?_|refine zZ ⟨_, rfl, ?_⟩)
      show int _ = int _
      rw [if_pos (by simp at hl1; simp; omega)]
  · obtain ⟨o, hq⟩ : ∃ o, s.rels[k]? = some o := ⟨_, List.getElem?_eq_getElem (by omega)⟩
    have hqe : (s.rels.map rlsT)[((k : Nat) : Int).toNat]? = some (rlsT o) := by simp [hq]
    have hqm : o ∈ s.rels := List.mem_of_getElem? hq
    rw [prev_succ hq, prev_succ hq]
    have hk : decide (((k + 1 : Nat) : Int) > 0) = true := decide_eq_true (by omega)
    have hcmp := compare_ok o.v r.v ((h.2 s hsm).2 o hqm).2.1 hr2
    have hrng := cmpVer_rng o.v r.v
    generalize cmpVer o.v r.v = C at *
    refine Fn.of tab_ok Tryz.func32 rfl (by decide) (by simp [Tryz.f32]) rfl (fun κ v h => by cases h) Gw.below ?_
    repeat' (first|refine zS ?_|refine zR ?_|refine zE tab_ok rfl rfl ?_|refine zN ?_|(refine zG rfl rfl (fun _ => ?_) fun _ => ?_)<;>refine zE tab_ok rfl rfl ?_|(refine zC rfl (fun _ => ?_) fun _ => ?_)<;>try (rename_i h; cases h; done)|refine zB ?_|refine zK ?_|refine zZ ⟨_, rfl, ?_⟩)
    refine zI (x := svcT s) tab_ok rfl (by omega) (hse) rfl ?_
    repeat' (first|refine zS ?_|refine zR ?_|refine zE tab_ok rfl rfl ?_|refine zN ?_|(refine zG rfl rfl (fun _ => ?_) fun _ => ?_)<;>refine zE tab_ok rfl rfl ?_|(refine zC rfl (fun _ => ?_) fun _ => ?_)<;>try (rename_i h; cases h; done)|refine zB ?_|refine zK ?_|refine zZ ⟨_, rfl, ?_⟩)
    refine zI (x := rlsT r) tab_ok rfl (by omega) (hre) rfl ?_
    repeat' (first|refine zS ?_|refine zR ?_|refine zE tab_ok rfl rfl ?_|refine zN ?_|(refine zG rfl rfl (fun _ => ?_) fun _ => ?_)<;>refine zE tab_ok rfl rfl ?_|(refine zC rfl (fun _ => ?_) fun _ => ?_)<;>try (rename_i h; cases h; done)|refine zB ?_|refine zK ?_|refine zZ ⟨_, rfl, ?_⟩)
    refine Sq.callv rfl (hR) ?_
    repeat' (first|refine zS ?_|refine zR ?_|refine zE tab_ok rfl rfl ?_|refine zN ?_|(refine zG rfl rfl (fun _ => ?_) fun _ => ?_)<;>refine zE tab_ok rfl rfl ?_|(refine zC rfl (fun _ => ?_) fun _ => ?_)<;>try (rename_i h; cases h; done)|refine zB ?_|refine zK ?_|refine zZ ⟨_, rfl, ?_⟩)
    refine Tr.drawn ( zD tab_ok rfl rfl <| DSq.evr tab_ok rfl (congrArg bool hk) <| zD tab_ok rfl rfl <| zD tab_ok rfl rfl <| zD tab_ok rfl rfl <| DSq.evr tab_ok rfl (wrapz (z := ((k : Nat) : Int)) (by omega) (by omega) (by omega)) <| zO rfl (fun q K hK => zI (x := rlsT o) tab_ok rfl (by omega) (hqe) rfl (zN hK)) <| zD tab_ok rfl rfl <| zD tab_ok rfl rfl <| zD tab_ok rfl rfl <| zD tab_ok rfl rfl <| DSq.call rfl (fun _ => rfl) (hcmp) <| zD tab_ok rfl rfl <| zD tab_ok rfl rfl <| zD tab_ok rfl rfl <| DSq.nil _) mix_ok rfl ?_
    refine zC rfl (fun h5 => ?_) (fun h5 => ?_)
    · have h5 := of_decide_eq_true (p := C ≥ 0) h5
      repeat' (first|refine zS ?_|refine zR ?_|refine zE tab_ok rfl rfl ?_|refine zN ?_|(refine zG rfl rfl (fun _ => ?_) fun _ => ?_)<;>refine zE tab_ok rfl rfl ?_|(refine zC rfl (fun _ => ?_) fun _ => ?_)<;>try (rename_i h; cases h; done)|refine zB ?_|refine zK ?_|refine zZ ⟨_, rfl, ?_⟩)
      show int _ = int _
      rw [if_pos (by simp; omega)]
    have h5 := of_decide_eq_false (p := C ≥ 0) h5
    rw [if_neg (by simp; omega)]
    cases hl1 : decide (r.level < 0)
    · cases hl2 : decide (r.level > 1000)
      · refine zS ?_
        refine Tr.drawn ( zD tab_ok rfl rfl <| zD tab_ok rfl rfl <| DSq.evr tab_ok rfl (congrArg bool hl1) <| zD tab_ok rfl rfl <| zD tab_ok rfl rfl <| zD tab_ok rfl rfl <| DSq.evr tab_ok rfl (congrArg bool hl2) <| zD tab_ok rfl rfl <| zD tab_ok rfl rfl <| zD tab_ok rfl rfl <| DSq.evr tab_ok rfl (congrArg bool hk) <| zD tab_ok rfl rfl <| zD tab_ok rfl rfl <| zD tab_ok rfl rfl <| zD tab_ok rfl rfl <| zD tab_ok rfl rfl <| DSq.evr tab_ok rfl (wrapz (z := ((k : Nat) : Int)) (by omega) (by omega) (by omega)) <| zO rfl (fun q K hK => zI (x := rlsT o) tab_ok rfl (by omega) (hqe) rfl (zN hK)) <| zD tab_ok rfl rfl <| zD tab_ok rfl rfl <| zD tab_ok rfl rfl <| zD tab_ok rfl rfl <| zD tab_ok rfl rfl <| zD tab_ok rfl rfl <| DSq.nil _) mix_ok rfl ?_
        refine zC rfl (fun h6 => ?_) (fun h6 => ?_)
        · have h6 := of_decide_eq_true (p := r.level < o.level) h6
          repeat' (first|refine zS ?_|refine zR ?_|refine zE tab_ok rfl rfl ?_|refine zN ?_|(refine zG rfl rfl (fun _ => ?_) fun _ => ?_)<;>refine zE tab_ok rfl rfl ?_|(refine zC rfl (fun _ => ?_) fun _ => ?_)<;>try (rename_i h; cases h; done)|refine zB ?_|refine zK ?_|refine zZ ⟨_, rfl, ?_⟩)
          show int _ = int _
          rw [if_pos (by simp; omega)]
        have h6 := of_decide_eq_false (p := r.level < o.level) h6
        repeat' (first|refine zS ?_|refine zR ?_|refine zE tab_ok rfl rfl ?_|refine zN ?_|(refine zG rfl rfl (fun _ => ?_) fun _ => ?_)<;>refine zE tab_ok rfl rfl ?_|(refine zC rfl (fun _ => ?_) fun _ => ?_)<;>try (rename_i h; cases h; done)|refine zB ?_|refine zK ?_|refine zZ ⟨_, rfl, ?_⟩)
        · rename_i h9
          have h9 : decide (((r.needs.map ndT).length : Int) > 8) = true := h9
          simp only [List.length_map, decide_eq_true_eq] at h9
          show int _ = int _
          rw [if_neg (by simp at hl1 hl2; simp; omega)]
          rw [if_pos (by omega)]
        · rename_i h9
          have h9 : decide (((r.needs.map ndT).length : Int) > 8) = false := h9
          simp only [List.length_map, decide_eq_false_iff_not] at h9
          rw [if_neg (by simp at hl1 hl2; simp; omega)]
          rw [if_neg (by omega)]
          refine Sq.callv rfl (hN) ?_
          repeat' (first|refine zS ?_|refine zR ?_|refine zE tab_ok rfl rfl ?_|refine zN ?_|(refine zG rfl rfl (fun _ => ?_) fun _ => ?_)<;>refine zE tab_ok rfl rfl ?_|(refine zC rfl (fun _ => ?_) fun _ => ?_)<;>try (rename_i h; cases h; done)|refine zB ?_|refine zK ?_|refine zZ ⟨_, rfl, ?_⟩)
          rfl
      · refine zS ?_
        refine Tr.drawn ( zD tab_ok rfl rfl <| zD tab_ok rfl rfl <| DSq.evr tab_ok rfl (congrArg bool hl1) <| zD tab_ok rfl rfl <| zD tab_ok rfl rfl <| zD tab_ok rfl rfl <| DSq.evr tab_ok rfl (congrArg bool hl2) <| zD tab_ok rfl rfl <| zD tab_ok rfl rfl <| zD tab_ok rfl rfl <| zD tab_ok rfl rfl <| zD tab_ok rfl rfl <| zD tab_ok rfl rfl <| zD tab_ok rfl rfl <| zD tab_ok rfl rfl <| zD tab_ok rfl rfl <| zD tab_ok rfl rfl <| zD tab_ok rfl rfl <| zD tab_ok rfl rfl <| zD tab_ok rfl rfl <| zD tab_ok rfl rfl <| zD tab_ok rfl rfl <| zD tab_ok rfl rfl <| zD tab_ok rfl rfl <| DSq.nil _) mix_ok rfl ?_
        repeat' (first|refine zS ?_|refine zR ?_|refine zE tab_ok rfl rfl ?_|refine zN ?_|(refine zG rfl rfl (fun _ => ?_) fun _ => ?_)<;>refine zE tab_ok rfl rfl ?_|(refine zC rfl (fun _ => ?_) fun _ => ?_)<;>try (rename_i h; cases h; done)|refine zB ?_|refine zK ?_|refine zZ ⟨_, rfl, ?_⟩)
        show int _ = int _
        rw [if_pos (by simp at hl2; simp; omega)]
    · refine zS ?_
      refine Tr.drawn ( zD tab_ok rfl rfl <| zD tab_ok rfl rfl <| DSq.evr tab_ok rfl (congrArg bool hl1) <| zD tab_ok rfl rfl <| zD tab_ok rfl rfl <| zD tab_ok rfl rfl <| zD tab_ok rfl rfl <| zD tab_ok rfl rfl <| zD tab_ok rfl rfl <| zD tab_ok rfl rfl <| zD tab_ok rfl rfl <| zD tab_ok rfl rfl <| zD tab_ok rfl rfl <| zD tab_ok rfl rfl <| zD tab_ok rfl rfl <| zD tab_ok rfl rfl <| zD tab_ok rfl rfl <| zD tab_ok rfl rfl <| zD tab_ok rfl rfl <| zD tab_ok rfl rfl <| zD tab_ok rfl rfl <| zD tab_ok rfl rfl <| zD tab_ok rfl rfl <| zD tab_ok rfl rfl <| DSq.nil _) mix_ok rfl ?_
      repeat' (first|refine zS ?_|refine zR ?_|refine zE tab_ok rfl rfl ?_|refine zN ?_|(refine zG rfl rfl (fun _ => ?_) fun _ => ?_)<;>refine zE tab_ok rfl rfl ?_|(refine zC rfl (fun _ => ?_) fun _ => ?_)<;>try (rename_i h; cases h; done)|refine zB ?_|refine zK ?_|refine zZ ⟨_, rfl, ?_⟩)
      show int _ = int _
      rw [if_pos (by simp at hl1; simp; omega)]
end Go.Lg.Tryz

set_option linter.unusedVariables false
set_option linter.unusedSimpArgs false
namespace Go.Lg.Tryz
open Go Go.Proofs Go.RowKit Go.Lib Go.Lg.Sem
set_option maxRecDepth 8192 in
theorem refRelease_ok {c : Ctl} (h : Ctl.ok c) (i k : Nat) (s : Svc) (r : Rls) (hs : c[i]? = some s) (hr : s.rels[k]? = some r) : Fn Tryz.prog Gw 34 [.tr (ctlT c), int i, int k] [] (· = int (relV c i k)) := by
  have hsm : s ∈ c := List.mem_of_getElem? hs
  have hrm : r ∈ s.rels := List.mem_of_getElem? hr
  obtain ⟨hr1, hr2, hr3⟩ := (h.2 s hsm).2 r hrm
  have hklt := (List.getElem?_eq_some_iff.1 hr).1
  have hkz := (h.2 s hsm).1
  have hse : (c.map svcT)[((i : Nat) : Int).toNat]? = some (svcT s) := by simp [hs]
  have hre : (s.rels.map rlsT)[((k : Nat) : Int).toNat]? = some (rlsT r) := by simp [hr]
  have hV : relV c i k = if r.v.right = false then 34 else if prevB s k (fun q => cmpVer q.v r.v != -1) = true then 32
      else if r.level < 0 ∨ r.level > 1000 ∨ prevB s k (fun q => decide (r.level < q.level)) = true then 35 else if r.needs.length > 8 then 36 else needsV c.length i r.needs := by
    unfold relV; rw [hs]; simp only; rw [hr]
  rw [hV]
  clear hV
  have hR := refRight_ok r.v hr2
  refine Fn.of tab_ok Tryz.func34 rfl (by decide) (by simp [Tryz.f34]) rfl (fun κ v h => by cases h) Gw.below ?_
  repeat' (first|refine zS ?_|refine zR ?_|refine zE tab_ok rfl rfl ?_|refine zN ?_|(refine zG rfl rfl (fun _ => ?_) fun _ => ?_)<;>refine zE tab_ok rfl rfl ?_|(refine zC rfl (fun _ => ?_) fun _ => ?_)<;>try (rename_i h; cases h; done)|refine zB ?_|refine zK ?_|refine zZ ⟨_, rfl, ?_⟩)
  refine zI (x := svcT s) tab_ok rfl (by omega) (hse) rfl ?_
  repeat' (first|refine zS ?_|refine zR ?_|refine zE tab_ok rfl rfl ?_|refine zN ?_|(refine zG rfl rfl (fun _ => ?_) fun _ => ?_)<;>refine zE tab_ok rfl rfl ?_|(refine zC rfl (fun _ => ?_) fun _ => ?_)<;>try (rename_i h; cases h; done)|refine zB ?_|refine zK ?_|refine zZ ⟨_, rfl, ?_⟩)
  refine zI (x := rlsT r) tab_ok rfl (by omega) (hre) rfl ?_
  repeat' (first|refine zS ?_|refine zR ?_|refine zE tab_ok rfl rfl ?_|refine zN ?_|(refine zG rfl rfl (fun _ => ?_) fun _ => ?_)<;>refine zE tab_ok rfl rfl ?_|(refine zC rfl (fun _ => ?_) fun _ => ?_)<;>try (rename_i h; cases h; done)|refine zB ?_|refine zK ?_|refine zZ ⟨_, rfl, ?_⟩)
  cases hv : r.v.right
  · rw [hv] at hR
    refine Sq.callv rfl (hR) ?_
    repeat' (first|refine zS ?_|refine zR ?_|refine zE tab_ok rfl rfl ?_|refine zN ?_|(refine zG rfl rfl (fun _ => ?_) fun _ => ?_)<;>refine zE tab_ok rfl rfl ?_|(refine zC rfl (fun _ => ?_) fun _ => ?_)<;>try (rename_i h; cases h; done)|refine zB ?_|refine zK ?_|refine zZ ⟨_, rfl, ?_⟩)
    rfl
  rw [hv] at hR
  rw [if_neg (by decide)]
  refine Sq.callv rfl (hR) ?_
  refine zE tab_ok rfl rfl ?_
  refine zN ?_
  (refine zC rfl (fun _ => ?_) (fun _ => ?_) <;> try (rename_i h; cases h; done))
  refine zK ?_
  cases hp1 : prevB s k (fun q => cmpVer q.v r.v != -1)
  case true =>
    rw [if_pos rfl]
    rcases k with _ | k
    · cases hp1
    · obtain ⟨o, hq⟩ : ∃ o, s.rels[k]? = some o := ⟨_, List.getElem?_eq_getElem (by omega)⟩
      have hqe : (s.rels.map rlsT)[((k : Nat) : Int).toNat]? = some (rlsT o) := by simp [hq]
      have hqm : o ∈ s.rels := List.mem_of_getElem? hq
      have hk : decide (((k + 1 : Nat) : Int) > 0) = true := decide_eq_true (by omega)
      have hcmp := refCompare_ok o.v r.v ((h.2 s hsm).2 o hqm).2.1 hr2
      rw [prev_succ hq] at hp1
      generalize cmpVer o.v r.v = C at *
      refine zS ?_
      refine zS ?_
      refine Tr.drawn ( zD tab_ok rfl rfl <| DSq.evr tab_ok rfl (congrArg bool hk) <| zD tab_ok rfl rfl <| zD tab_ok rfl rfl <| zD tab_ok rfl rfl <| zD tab_ok rfl rfl <| zO rfl (fun q K hK => zI (x := svcT s) tab_ok rfl (by omega) (hse) rfl (zN hK)) <| zD tab_ok rfl rfl <| zD tab_ok rfl rfl <| zD tab_ok rfl rfl <| DSq.evr tab_ok rfl (wrapz (z := ((k : Nat) : Int)) (by omega) (by omega) (by omega)) <| zO rfl (fun q K hK => zI (x := rlsT o) tab_ok rfl (by omega) (hqe) rfl (zN hK)) <| zD tab_ok rfl rfl <| zD tab_ok rfl rfl <| zD tab_ok rfl rfl <| zD tab_ok rfl rfl <| DSq.call rfl (fun _ => rfl) (hcmp) <| zD tab_ok rfl rfl <| zD tab_ok rfl rfl <| DSq.nil _) mix_ok rfl ?_
      repeat' (first|refine zS ?_|refine zR ?_|refine zE tab_ok rfl rfl ?_|refine zN ?_|(refine zG rfl rfl (fun _ => ?_) fun _ => ?_)<;>refine zE tab_ok rfl rfl ?_|(refine zC rfl (fun _ => ?_) fun _ => ?_)<;>try (rename_i h; cases h; done)|refine zB ?_|refine zK ?_|refine zZ ⟨_, rfl, ?_⟩)
      · rfl
      · rename_i h5; exfalso; have h5 : (C != -1) = false := h5; rw [hp1] at h5; cases h5
  rw [if_neg (by decide)]
  refine Tr.cut [(.s 1, int i), (.s 3, .ptr (.l 3) 0), (.l 3, .blk 28 [.tr (.ls (c.map svcT))]), (.s 2, int k), (.s 7, .ptr (.l 7) 0), (.l 7, .blk 90 [int r.v.a, int r.v.b, int r.v.c, str r.v.p, int r.level, .tr (.ls (r.needs.map ndT))])] ?_ ?_
  · rcases k with _ | k
    · have hk : decide (((0 : Nat) : Int) > 0) = false := rfl
      refine zS ?_
      refine Tr.drawn ( zD tab_ok rfl rfl <| DSq.evr tab_ok rfl (congrArg bool hk) <| zD tab_ok rfl rfl <| zD tab_ok rfl rfl <| zD tab_ok rfl rfl <| zD tab_ok rfl rfl <| zD tab_ok rfl rfl <| zD tab_ok rfl rfl <| zD tab_ok rfl rfl <| zD tab_ok rfl rfl <| zD tab_ok rfl rfl <| zD tab_ok rfl rfl <| zD tab_ok rfl rfl <| zD tab_ok rfl rfl <| zD tab_ok rfl rfl <| zD tab_ok rfl rfl <| zD tab_ok rfl rfl <| zD tab_ok rfl rfl <| zD tab_ok rfl rfl <| DSq.nil _) mix_ok rfl ?_
      repeat' (first|refine zS ?_|refine zR ?_|refine zE tab_ok rfl rfl ?_|refine zN ?_|(refine zG rfl rfl (fun _ => ?_) fun _ => ?_)<;>refine zE tab_ok rfl rfl ?_|(refine zC rfl (fun _ => ?_) fun _ => ?_)<;>try (rename_i h; cases h; done)|refine zB ?_|refine zK ?_|refine zZ ⟨_, rfl, ?_⟩)
      exact SubL.sub (m' := [_, _, _, _, _, _]) ⟨rfl, rfl, rfl, rfl, rfl, rfl, trivial⟩
    · obtain ⟨o, hq⟩ : ∃ o, s.rels[k]? = some o := ⟨_, List.getElem?_eq_getElem (by omega)⟩
      have hqe : (s.rels.map rlsT)[((k : Nat) : Int).toNat]? = some (rlsT o) := by simp [hq]
      have hqm : o ∈ s.rels := List.mem_of_getElem? hq
      have hk : decide (((k + 1 : Nat) : Int) > 0) = true := decide_eq_true (by omega)
      have hcmp := refCompare_ok o.v r.v ((h.2 s hsm).2 o hqm).2.1 hr2
      rw [prev_succ hq] at hp1
      generalize cmpVer o.v r.v = C at *
      refine zS ?_
      refine Tr.drawn ( zD tab_ok rfl rfl <| DSq.evr tab_ok rfl (congrArg bool hk) <| zD tab_ok rfl rfl <| zD tab_ok rfl rfl <| zD tab_ok rfl rfl <| zD tab_ok rfl rfl <| zO rfl (fun q K hK => zI (x := svcT s) tab_ok rfl (by omega) (hse) rfl (zN hK)) <| zD tab_ok rfl rfl <| zD tab_ok rfl rfl <| zD tab_ok rfl rfl <| DSq.evr tab_ok rfl (wrapz (z := ((k : Nat) : Int)) (by omega) (by omega) (by omega)) <| zO rfl (fun q K hK => zI (x := rlsT o) tab_ok rfl (by omega) (hqe) rfl (zN hK)) <| zD tab_ok rfl rfl <| zD tab_ok rfl rfl <| zD tab_ok rfl rfl <| zD tab_ok rfl rfl <| DSq.call rfl (fun _ => rfl) (hcmp) <| zD tab_ok rfl rfl <| zD tab_ok rfl rfl <| DSq.nil _) mix_ok rfl ?_
      repeat' (first|refine zS ?_|refine zR ?_|refine zE tab_ok rfl rfl ?_|refine zN ?_|(refine zG rfl rfl (fun _ => ?_) fun _ => ?_)<;>refine zE tab_ok rfl rfl ?_|(refine zC rfl (fun _ => ?_) fun _ => ?_)<;>try (rename_i h; cases h; done)|refine zB ?_|refine zK ?_|refine zZ ⟨_, rfl, ?_⟩)
      · rename_i h5; exfalso; have h5 : (C != -1) = true := h5; rw [hp1] at h5; cases h5
      · exact SubL.sub (m' := [_, _, _, _, _, _]) ⟨rfl, rfl, rfl, rfl, rfl, rfl, trivial⟩
  by_cases hL : r.level < 0 ∨ r.level > 1000 ∨ prevB s k (fun q => decide (r.level < q.level)) = true
  · rw [if_pos hL]
    cases hl1 : decide (r.level < 0)
    case true =>
      refine zS ?_
      refine zS ?_
      refine Tr.drawn ( zD tab_ok rfl rfl <| zD tab_ok rfl rfl <| DSq.evr tab_ok rfl (congrArg bool hl1) <| zD tab_ok rfl rfl <| zD tab_ok rfl rfl <| zD tab_ok rfl rfl <| zD tab_ok rfl rfl <| zD tab_ok rfl rfl <| zD tab_ok rfl rfl <| zD tab_ok rfl rfl <| zD tab_ok rfl rfl <| zD tab_ok rfl rfl <| zD tab_ok rfl rfl <| zD tab_ok rfl rfl <| zD tab_ok rfl rfl <| zD tab_ok rfl rfl <| zD tab_ok rfl rfl <| zD tab_ok rfl rfl <| zD tab_ok rfl rfl <| zD tab_ok rfl rfl <| zD tab_ok rfl rfl <| zD tab_ok rfl rfl <| zD tab_ok rfl rfl <| zD tab_ok rfl rfl <| zD tab_ok rfl rfl <| zD tab_ok rfl rfl <| zD tab_ok rfl rfl <| zD tab_ok rfl rfl <| DSq.nil _) mix_ok rfl ?_
      repeat' (first|refine zS ?_|refine zR ?_|refine zE tab_ok rfl rfl ?_|refine zN ?_|(refine zG rfl rfl (fun _ => ?_) fun _ => ?_)<;>refine zE tab_ok rfl rfl ?_|(refine zC rfl (fun _ => ?_) fun _ => ?_)<;>try (rename_i h; cases h; done)|refine zB ?_|refine zK ?_|refine zZ ⟨_, rfl, ?_⟩)
      rfl
    cases hl2 : decide (r.level > 1000)
    case true =>
      refine zS ?_
      refine zS ?_
      refine Tr.drawn ( zD tab_ok rfl rfl <| zD tab_ok rfl rfl <| DSq.evr tab_ok rfl (congrArg bool hl1) <| zD tab_ok rfl rfl <| zD tab_ok rfl rfl <| zD tab_ok rfl rfl <| DSq.evr tab_ok rfl (congrArg bool hl2) <| zD tab_ok rfl rfl <| zD tab_ok rfl rfl <| zD tab_ok rfl rfl <| zD tab_ok rfl rfl <| zD tab_ok rfl rfl <| zD tab_ok rfl rfl <| zD tab_ok rfl rfl <| zD tab_ok rfl rfl <| zD tab_ok rfl rfl <| zD tab_ok rfl rfl <| zD tab_ok rfl rfl <| zD tab_ok rfl rfl <| zD tab_ok rfl rfl <| zD tab_ok rfl rfl <| zD tab_ok rfl rfl <| zD tab_ok rfl rfl <| zD tab_ok rfl rfl <| zD tab_ok rfl rfl <| zD tab_ok rfl rfl <| zD tab_ok rfl rfl <| zD tab_ok rfl rfl <| DSq.nil _) mix_ok rfl ?_
      repeat' (first|refine zS ?_|refine zR ?_|refine zE tab_ok rfl rfl ?_|refine zN ?_|(refine zG rfl rfl (fun _ => ?_) fun _ => ?_)<;>refine zE tab_ok rfl rfl ?_|(refine zC rfl (fun _ => ?_) fun _ => ?_)<;>try (rename_i h; cases h; done)|refine zB ?_|refine zK ?_|refine zZ ⟨_, rfl, ?_⟩)
      rfl
    have hp2 : prevB s k (fun q => decide (r.level < q.level)) = true := by
      have h1 := of_decide_eq_false hl1
      have h2 := of_decide_eq_false hl2
      rcases hL with h | h | h
      · exact absurd h h1
      · exact absurd h h2
      · exact h
    rcases k with _ | k
    · cases hp2
    · obtain ⟨o, hq⟩ : ∃ o, s.rels[k]? = some o := ⟨_, List.getElem?_eq_getElem (by omega)⟩
      have hqe : (s.rels.map rlsT)[((k : Nat) : Int).toNat]? = some (rlsT o) := by simp [hq]
      have hqm : o ∈ s.rels := List.mem_of_getElem? hq
      have hk : decide (((k + 1 : Nat) : Int) > 0) = true := decide_eq_true (by omega)
      rw [prev_succ hq] at hp2
      refine zS ?_
      refine zS ?_
      refine Tr.drawn ( zD tab_ok rfl rfl <| zD tab_ok rfl rfl <| DSq.evr tab_ok rfl (congrArg bool hl1) <| zD tab_ok rfl rfl <| zD tab_ok rfl rfl <| zD tab_ok rfl rfl <| DSq.evr tab_ok rfl (congrArg bool hl2) <| zD tab_ok rfl rfl <| zD tab_ok rfl rfl <| zD tab_ok rfl rfl <| DSq.evr tab_ok rfl (congrArg bool hk) <| zD tab_ok rfl rfl <| zD tab_ok rfl rfl <| zD tab_ok rfl rfl <| zD tab_ok rfl rfl <| zD tab_ok rfl rfl <| zD tab_ok rfl rfl <| zO rfl (fun q K hK => zI (x := svcT s) tab_ok rfl (by omega) (hse) rfl (zN hK)) <| zD tab_ok rfl rfl <| zD tab_ok rfl rfl <| zD tab_ok rfl rfl <| DSq.evr tab_ok rfl (wrapz (z := ((k : Nat) : Int)) (by omega) (by omega) (by omega)) <| zO rfl (fun q K hK => zI (x := rlsT o) tab_ok rfl (by omega) (hqe) rfl (zN hK)) <| zD tab_ok rfl rfl <| zD tab_ok rfl rfl <| zD tab_ok rfl rfl <| zD tab_ok rfl rfl <| zD tab_ok rfl rfl <| DSq.nil _) mix_ok rfl ?_
      refine zC rfl (fun h5 => ?_) (fun h5 => ?_)
      · repeat' (first|refine zS ?_|refine zR ?_|refine zE tab_ok rfl rfl ?_|refine zN ?_|(refine zG rfl rfl (fun _ => ?_) fun _ => ?_)<;>refine zE tab_ok rfl rfl ?_|(refine zC rfl (fun _ => ?_) fun _ => ?_)<;>try (rename_i h; cases h; done)|refine zB ?_|refine zK ?_|refine zZ ⟨_, rfl, ?_⟩)
        rfl
      · exfalso; have h5 : decide (r.level < o.level) = false := h5; rw [hp2] at h5; cases h5
  rw [if_neg hL]
  refine Tr.cut [(.s 1, int i), (.s 3, .ptr (.l 3) 0), (.l 3, .blk 28 [.tr (.ls (c.map svcT))]), (.s 2, int k), (.s 7, .ptr (.l 7) 0), (.l 7, .blk 90 [int r.v.a, int r.v.b, int r.v.c, str r.v.p, int r.level, .tr (.ls (r.needs.map ndT))])] ?_ ?_
  · have hl1 : decide (r.level < 0) = false := decide_eq_false (fun h => hL (.inl h))
    have hl2 : decide (r.level > 1000) = false := decide_eq_false (fun h => hL (.inr (.inl h)))
    have hp2 : prevB s k (fun q => decide (r.level < q.level)) = false := by rw [← Bool.not_eq_true]; exact fun h => hL (.inr (.inr h))
    rcases k with _ | k
    · have hk : decide (((0 : Nat) : Int) > 0) = false := rfl
      refine zS ?_
      refine Tr.drawn ( zD tab_ok rfl rfl <| zD tab_ok rfl rfl <| DSq.evr tab_ok rfl (congrArg bool hl1) <| zD tab_ok rfl rfl <| zD tab_ok rfl rfl <| zD tab_ok rfl rfl <| DSq.evr tab_ok rfl (congrArg bool hl2) <| zD tab_ok rfl rfl <| zD tab_ok rfl rfl <| zD tab_ok rfl rfl <| DSq.evr tab_ok rfl (congrArg bool hk) <| zD tab_ok rfl rfl <| zD tab_ok rfl rfl <| zD tab_ok rfl rfl <| zD tab_ok rfl rfl <| zD tab_ok rfl rfl <| zD tab_ok rfl rfl <| zD tab_ok rfl rfl <| zD tab_ok rfl rfl <| zD tab_ok rfl rfl <| zD tab_ok rfl rfl <| zD tab_ok rfl rfl <| zD tab_ok rfl rfl <| zD tab_ok rfl rfl <| zD tab_ok rfl rfl <| zD tab_ok rfl rfl <| zD tab_ok rfl rfl <| zD tab_ok rfl rfl <| DSq.nil _) mix_ok rfl ?_
      repeat' (first|refine zS ?_|refine zR ?_|refine zE tab_ok rfl rfl ?_|refine zN ?_|(refine zG rfl rfl (fun _ => ?_) fun _ => ?_)<;>refine zE tab_ok rfl rfl ?_|(refine zC rfl (fun _ => ?_) fun _ => ?_)<;>try (rename_i h; cases h; done)|refine zB ?_|refine zK ?_|refine zZ ⟨_, rfl, ?_⟩)
      exact SubL.sub (m' := [_, _, _, _, _, _]) ⟨rfl, rfl, rfl, rfl, rfl, rfl, trivial⟩
    · obtain ⟨o, hq⟩ : ∃ o, s.rels[k]? = some o := ⟨_, List.getElem?_eq_getElem (by omega)⟩
      have hqe : (s.rels.map rlsT)[((k : Nat) : Int).toNat]? = some (rlsT o) := by simp [hq]
      have hqm : o ∈ s.rels := List.mem_of_getElem? hq
      have hk : decide (((k + 1 : Nat) : Int) > 0) = true := decide_eq_true (by omega)
      rw [prev_succ hq] at hp2
      refine zS ?_
      refine Tr.drawn ( zD tab_ok rfl rfl <| zD tab_ok rfl rfl <| DSq.evr tab_ok rfl (congrArg bool hl1) <| zD tab_ok rfl rfl <| zD tab_ok rfl rfl <| zD tab_ok rfl rfl <| DSq.evr tab_ok rfl (congrArg bool hl2) <| zD tab_ok rfl rfl <| zD tab_ok rfl rfl <| zD tab_ok rfl rfl <| DSq.evr tab_ok rfl (congrArg bool hk) <| zD tab_ok rfl rfl <| zD tab_ok rfl rfl <| zD tab_ok rfl rfl <| zD tab_ok rfl rfl <| zD tab_ok rfl rfl <| zD tab_ok rfl rfl <| zO rfl (fun q K hK => zI (x := svcT s) tab_ok rfl (by omega) (hse) rfl (zN hK)) <| zD tab_ok rfl rfl <| zD tab_ok rfl rfl <| zD tab_ok rfl rfl <| DSq.evr tab_ok rfl (wrapz (z := ((k : Nat) : Int)) (by omega) (by omega) (by omega)) <| zO rfl (fun q K hK => zI (x := rlsT o) tab_ok rfl (by omega) (hqe) rfl (zN hK)) <| zD tab_ok rfl rfl <| zD tab_ok rfl rfl <| zD tab_ok rfl rfl <| zD tab_ok rfl rfl <| zD tab_ok rfl rfl <| DSq.nil _) mix_ok rfl ?_
      repeat' (first|refine zS ?_|refine zR ?_|refine zE tab_ok rfl rfl ?_|refine zN ?_|(refine zG rfl rfl (fun _ => ?_) fun _ => ?_)<;>refine zE tab_ok rfl rfl ?_|(refine zC rfl (fun _ => ?_) fun _ => ?_)<;>try (rename_i h; cases h; done)|refine zB ?_|refine zK ?_|refine zZ ⟨_, rfl, ?_⟩)
      · rename_i h5; exfalso; have h5 : decide (r.level < o.level) = true := h5; rw [hp2] at h5; cases h5
      · exact SubL.sub (m' := [_, _, _, _, _, _]) ⟨rfl, rfl, rfl, rfl, rfl, rfl, trivial⟩
  repeat' (first|refine zS ?_|refine zR ?_|refine zE tab_ok rfl rfl ?_|refine zN ?_|(refine zG rfl rfl (fun _ => ?_) fun _ => ?_)<;>refine zE tab_ok rfl rfl ?_|(refine zC rfl (fun _ => ?_) fun _ => ?_)<;>try (rename_i h; cases h; done)|refine zB ?_|refine zK ?_|refine zZ ⟨_, rfl, ?_⟩)
  · rename_i h9
    have h9 : decide (((r.needs.map ndT).length : Int) > 8) = true := h9
    simp only [List.length_map, decide_eq_true_eq] at h9
    show int _ = int _
    rw [if_pos (by omega)]
  rename_i h9
  have h9 : decide (((r.needs.map ndT).length : Int) > 8) = false := h9
  simp only [List.length_map, decide_eq_false_iff_not] at h9
  rw [if_neg (by omega)]
  generalize r.needs = l at *
  refine Tr.loopS (fun n : Nat => [(.s 1, int i), (.s 3, .ptr (.l 3) 0), (.l 3, .blk 28 [.tr (.ls (c.map svcT))]), (.s 7, .ptr (.l 7) 0), (.l 7, .blk 90 [int r.v.a, int r.v.b, int r.v.c, str r.v.p, int r.level, .tr (.ls (l.map ndT))]), (.s 8, int n)]) (fun n => l.length - n) (fun n => n ≤ l.length ∧ ∀ j, j < n → needAt c.length i l j = 0)
    0 ⟨by omega, by intro j hj; omega⟩ (Sub.app (l := [_, _, _, _, _, _]) (H := []) ⟨rfl, rfl, rfl, rfl, rfl, rfl, trivial⟩ (fun κ v h => nomatch h)) ?_
  rintro n ⟨hn, hp⟩
  repeat' (first|refine zS ?_|refine zR ?_|refine zE tab_ok rfl rfl ?_|refine zN ?_|(refine zG rfl rfl (fun _ => ?_) fun _ => ?_)<;>refine zE tab_ok rfl rfl ?_|(refine zC rfl (fun _ => ?_) fun _ => ?_)<;>try (rename_i h; cases h; done)|refine zB ?_|refine zK ?_|refine zZ ⟨_, rfl, ?_⟩)
  · rename_i h2
    have hlt : n < l.length := by simp only [List.length_map, decide_eq_true_eq] at h2; omega
    obtain ⟨x, hx⟩ : ∃ x, l[n]? = some x := ⟨_, List.getElem?_eq_getElem hlt⟩
    have hxm : x ∈ l := List.mem_of_getElem? hx
    have hxe : (l.map ndT)[((n : Nat) : Int).toNat]? = some (ndT x) := by simp [hx]
    have hA : needAt c.length i l n = if x.s < 0 ∨ x.s ≥ c.length ∨ x.s = i then 33 else if (l.take n).any (fun o => o.s == x.s) then 31 else if rngRight x.r = false then 12 else 0 := by unfold needAt; rw [hx]
    have bad : ∀ e, needAt c.length i l n = e → e ≠ 0 → int e = int (needsV c.length i l) := fun e h1 h2 => by
      have : needsV c.length i l = needAt c.length i l n := firstE_at hlt hp (by rw [h1]; exact h2)
      rw [this, h1]
    have hRR := refRngRight_ok x.r (hr3 x hxm).1 (by have := (hr3 x hxm).2; omega)
    refine zI (x := ndT x) tab_ok rfl (by omega) (hxe) rfl ?_
    repeat' (first|refine zS ?_|refine zR ?_|refine zE tab_ok rfl rfl ?_|refine zN ?_|(refine zG rfl rfl (fun _ => ?_) fun _ => ?_)<;>refine zE tab_ok rfl rfl ?_|(refine zC rfl (fun _ => ?_) fun _ => ?_)<;>try (rename_i h; cases h; done)|refine zB ?_|refine zK ?_|refine zZ ⟨_, rfl, ?_⟩)
    · rename_i h1 _
      have h1 := of_decide_eq_true h1
      exact bad 33 (by rw [hA, if_pos (by omega)]) (by decide)
    · rename_i h1 _
      have h1 : decide (x.s ≥ ((c.map svcT).length : Int)) = true := h1
      rw [List.length_map] at h1
      have h1 := of_decide_eq_true h1
      exact bad 33 (by rw [hA, if_pos (by omega)]) (by decide)
    · rename_i h1
      have h1 : (x.s == (i : Int)) = true := h1
      have h1 := eq_of_beq h1
      exact bad 33 (by rw [hA, if_pos (by omega)]) (by decide)
    rename_i h1 h2 h3
    have h1 := of_decide_eq_false h1
    have h2 : decide (x.s ≥ ((c.map svcT).length : Int)) = false := h2
    rw [List.length_map] at h2
    have h2 := of_decide_eq_false h2
    have h3 : (x.s == (i : Int)) = false := h3
    have h3 := ne_of_beq_false h3
    rw [if_neg (by omega)] at hA
    refine Tr.loopS (fun m : Nat => [(.s 1, int i), (.s 3, .ptr (.l 3) 0), (.l 3, .blk 28 [.tr (.ls (c.map svcT))]), (.s 7, .ptr (.l 7) 0), (.l 7, .blk 90 [int r.v.a, int r.v.b, int r.v.c, str r.v.p, int r.level, .tr (.ls (l.map ndT))]), (.s 8, int n),
        (.s 9, .ptr (.l 9) 0), (.l 9, .blk 97 [int x.s, .tr (.ls (x.r.map cmpsT))]), (.s 10, int m)]) (fun m => n - m) (fun m => m ≤ n ∧ (l.take m).any (fun o => o.s == x.s) = false)
      0 ⟨by omega, by simp⟩ (Sub.app (l := [_, _, _, _, _, _, _, _, _]) (H := []) ⟨rfl, rfl, rfl, rfl, rfl, rfl, rfl, rfl, rfl, trivial⟩ (fun κ v h => nomatch h)) ?_
    rintro m ⟨hm, hpm⟩
    repeat' (first|refine zS ?_|refine zR ?_|refine zE tab_ok rfl rfl ?_|refine zN ?_|(refine zG rfl rfl (fun _ => ?_) fun _ => ?_)<;>refine zE tab_ok rfl rfl ?_|(refine zC rfl (fun _ => ?_) fun _ => ?_)<;>try (rename_i h; cases h; done)|refine zB ?_|refine zK ?_|refine zZ ⟨_, rfl, ?_⟩)
    · rename_i h4
      have hlt2 : m < n := by have := of_decide_eq_true h4; omega
      obtain ⟨o, ho⟩ : ∃ o, l[m]? = some o := ⟨_, List.getElem?_eq_getElem (by omega)⟩
      have hoe : (l.map ndT)[((m : Nat) : Int).toNat]? = some (ndT o) := by simp [ho]
      have hok : l[m] = o := by rw [List.getElem?_eq_getElem (by omega)] at ho; exact Option.some.inj ho
      refine Tr.drawn ( zD tab_ok rfl rfl <| zD tab_ok rfl rfl <| zD tab_ok rfl rfl <| zO rfl (fun q K hK => zI (x := ndT o) tab_ok rfl (by omega) (hoe) rfl (zN hK)) <| zD tab_ok rfl rfl <| zD tab_ok rfl rfl <| zD tab_ok rfl rfl <| zD tab_ok rfl rfl <| zD tab_ok rfl rfl <| DSq.nil _) mix_ok rfl ?_
      repeat' (first|refine zS ?_|refine zR ?_|refine zE tab_ok rfl rfl ?_|refine zN ?_|(refine zG rfl rfl (fun _ => ?_) fun _ => ?_)<;>refine zE tab_ok rfl rfl ?_|(refine zC rfl (fun _ => ?_) fun _ => ?_)<;>try (rename_i h; cases h; done)|refine zB ?_|refine zK ?_|refine zZ ⟨_, rfl, ?_⟩)
      · rename_i h5
        have h5 : (o.s == x.s) = true := h5
        have : (l.take n).any (fun o => o.s == x.s) = true := List.any_eq_true.2 ⟨o, List.mem_of_getElem? (i := m) (by rw [List.getElem?_take, if_pos hlt2]; exact ho), h5⟩
        exact bad 31 (by rw [hA, if_pos this]) (by decide)
      · rename_i h5
        have h5 : (o.s == x.s) = false := h5
        refine ⟨m + 1, ⟨by omega, ?_⟩, by omega, Sub.app (l := [_, _, _, _, _, _, _, _, _]) (H := []) ⟨rfl, rfl, rfl, rfl, rfl, rfl, rfl, rfl, congrArg some (wrapz (by omega) (by omega) (by omega)), trivial⟩ (fun κ v h => nomatch h)⟩
        rw [List.take_succ_eq_append_getElem (by omega), List.any_append, hpm, hok]
        simp [h5]
    · rename_i h4
      have hge : m = n := by have := of_decide_eq_false h4; omega
      subst hge
      rw [hpm, if_neg (by decide)] at hA
      refine Tr.exit ?_
      repeat' (first|refine zS ?_|refine zR ?_|refine zE tab_ok rfl rfl ?_|refine zN ?_|(refine zG rfl rfl (fun _ => ?_) fun _ => ?_)<;>refine zE tab_ok rfl rfl ?_|(refine zC rfl (fun _ => ?_) fun _ => ?_)<;>try (rename_i h; cases h; done)|refine zB ?_|refine zK ?_|refine zZ ⟨_, rfl, ?_⟩)
      generalize rngRight x.r = B2 at *
      cases B2
      · refine Sq.callv rfl (hRR) ?_
        repeat' (first|refine zS ?_|refine zR ?_|refine zE tab_ok rfl rfl ?_|refine zN ?_|(refine zG rfl rfl (fun _ => ?_) fun _ => ?_)<;>refine zE tab_ok rfl rfl ?_|(refine zC rfl (fun _ => ?_) fun _ => ?_)<;>try (rename_i h; cases h; done)|refine zB ?_|refine zK ?_|refine zZ ⟨_, rfl, ?_⟩)
        exact bad 12 (by rw [hA]; rfl) (by decide)
      · refine Sq.callv rfl (hRR) ?_
        repeat' (first|refine zS ?_|refine zR ?_|refine zE tab_ok rfl rfl ?_|refine zN ?_|(refine zG rfl rfl (fun _ => ?_) fun _ => ?_)<;>refine zE tab_ok rfl rfl ?_|(refine zC rfl (fun _ => ?_) fun _ => ?_)<;>try (rename_i h; cases h; done)|refine zB ?_|refine zK ?_|refine zZ ⟨_, rfl, ?_⟩)
        exact ⟨m + 1, ⟨by omega, fun j hj => by
          rcases Nat.lt_succ_iff_lt_or_eq.1 hj with h | rfl
          · exact hp j h
          · rw [hA]; rfl⟩, by omega, Sub.app (l := [_, _, _, _, _, _]) (H := []) ⟨rfl, rfl, rfl, rfl, rfl, congrArg some (wrapz (by omega) (by omega) (by omega)), trivial⟩ (fun κ v h => nomatch h)⟩
  · rename_i h2
    have hge : l.length ≤ n := by simp only [List.length_map, decide_eq_false_iff_not] at h2; omega
    refine Tr.exit ?_
    repeat' (first|refine zS ?_|refine zR ?_|refine zE tab_ok rfl rfl ?_|refine zN ?_|(refine zG rfl rfl (fun _ => ?_) fun _ => ?_)<;>refine zE tab_ok rfl rfl ?_|(refine zC rfl (fun _ => ?_) fun _ => ?_)<;>try (rename_i h; cases h; done)|refine zB ?_|refine zK ?_|refine zZ ⟨_, rfl, ?_⟩)
    show int _ = int _
    rw [show needsV c.length i l = 0 from firstE_none fun j hj => hp j (by omega)]
end Go.Lg.Tryz

set_option linter.unusedVariables false
set_option linter.unusedSimpArgs false
namespace Go.Lg.Sem
open Go
def edgesRow (c : Ctl) (j k : Nat) : List (Nat × Nat) := ((List.range k).filter fun i => asks c i j).map fun i => (j, i)
def edgesUp (c : Ctl) (j : Nat) : List (Nat × Nat) := (List.range j).flatMap fun j => edgesRow c j c.length
def edges (c : Ctl) : List (Nat × Nat) := edgesUp c c.length
theorem row_zero (c : Ctl) (j : Nat) : edgesRow c j 0 = [] := rfl
theorem up_zero (c : Ctl) : edgesUp c 0 = [] := rfl
theorem row_t {c : Ctl} {j k : Nat} (h : asks c k j = true) : edgesRow c j (k + 1) = edgesRow c j k ++ [(j, k)] := by
  unfold edgesRow
  rw [List.range_succ, List.filter_append, List.map_append]
  simp [List.filter_cons, h]
theorem row_f {c : Ctl} {j k : Nat} (h : asks c k j = false) : edgesRow c j (k + 1) = edgesRow c j k := by
  unfold edgesRow
  rw [List.range_succ, List.filter_append, List.map_append]
  simp [List.filter_cons, h]
theorem up_succ (c : Ctl) (j : Nat) : edgesUp c (j + 1) = edgesUp c j ++ edgesRow c j c.length := by
  unfold edgesUp
  rw [List.range_succ, List.flatMap_append]; simp
theorem row_len (c : Ctl) (j k : Nat) : (edgesRow c j k).length ≤ k := by
  unfold edgesRow
  rw [List.length_map]
  exact Nat.le_trans (List.length_filter_le _ _) (by simp)
theorem up_len (c : Ctl) (j : Nat) : (edgesUp c j).length ≤ j * c.length := by
  induction j with
  | zero => simp [up_zero]
  | succ j ih => rw [up_succ, List.length_append, Nat.succ_mul]; have := row_len c j c.length; omega
theorem edges_len (c : Ctl) : (edges c).length ≤ c.length * c.length := up_len c c.length
theorem edges_mem {c : Ctl} {p : Nat × Nat} : p ∈ edges c ↔ p.1 < c.length ∧ p.2 < c.length ∧ asks c p.2 p.1 = true := by
  unfold edges edgesUp edgesRow
  rw [List.mem_flatMap]
  constructor
  · rintro ⟨j, hj, hp⟩
    obtain ⟨i, hi, rfl⟩ := List.mem_map.1 hp
    rw [List.mem_filter, List.mem_range] at hi
    exact ⟨List.mem_range.1 hj, hi.1, hi.2⟩
  · rintro ⟨h1, h2, h3⟩
    exact ⟨p.1, List.mem_range.2 h1, List.mem_map.2 ⟨p.2, List.mem_filter.2 ⟨List.mem_range.2 h2, h3⟩, rfl⟩⟩
end Go.Lg.Sem

set_option linter.unusedVariables false
set_option linter.unusedSimpArgs false
namespace Go.Lg.Tryz
open Go Go.Proofs Go.RowKit Go.Lib Go.Lg.Sem
abbrev edT (p : Nat × Nat) : T := .ag [.sc (.int .i64 (p.1 : Nat)), .sc (.int .i64 (p.2 : Nat))]
abbrev grT (n : Nat) (es : List (Nat × Nat)) : T := .ag [.sc (.int .i64 (n : Nat)), .ls (es.map edT)]
theorem Graph_ok {c : Ctl} (h : Ctl.ok c) (hc : c.length ≤ 1000) : Fn Tryz.prog Gw 15 [.tr (ctlT c)] [] (· = .tr (grT c.length (edges c))) := by
  have hcl : ((c.map svcT).length : Int) = (c.length : Nat) := by rw [List.length_map]
  refine Fn.of tab_ok Tryz.func15 rfl (by decide) (by simp [Tryz.f15]) rfl (fun κ v h => by cases h) Gw.below ?_
  refine zS ?_
  refine zR ?_
  refine zE tab_ok rfl rfl ?_
  refine zE tab_ok rfl rfl ?_
  refine zN ?_
  refine zS ?_
  refine zR ?_
  refine zE tab_ok rfl rfl ?_
  refine zE tab_ok rfl rfl ?_
  refine zE tab_ok rfl rfl ?_
  rw [hcl]
  refine Sq.buildN tab_ok rfl rfl ?_
  refine zE tab_ok rfl rfl ?_
  refine zE tab_ok rfl rfl ?_
  refine zN ?_
  refine Tr.turn (fun Γ a w h => RelX.nilOwn tab_ok h (.l 3) 39 44 [int c.length] [] rfl rfl rfl) ?_
  repeat' (first|refine zS ?_|refine zR ?_|refine zE tab_ok rfl rfl ?_|refine zN ?_|(refine zG rfl rfl (fun _ => ?_) fun _ => ?_)<;>refine zE tab_ok rfl rfl ?_|(refine zC rfl (fun _ => ?_) fun _ => ?_)<;>try (rename_i h; cases h; done)|refine zB ?_|refine zK ?_|refine zZ ⟨_, rfl, ?_⟩)
  rw [hcl]
  refine Tr.loopS (fun j : Nat => [(.s 1, .ptr (.l 1) 0), (.l 1, .blk 24 [.tr (.ls (c.map svcT))]), (.s 2, .ptr (.l 2) 0), (.l 2, .blk 39 [int 0, .own 44 []]), (.s 3, .ptr (.l 3) 0), (.l 3, .blk 39 [int c.length, .own 44 ((edgesUp c j).map edT)]), (.s 12, int c.length), (.s 13, int j)]) (fun j => c.length - j)
    (fun j => j ≤ c.length) 0 (by omega) (Sub.app (l := [_, _, _, _, _, _, _, _]) (H := []) ⟨rfl, rfl, rfl, rfl, rfl, rfl, rfl, rfl, trivial⟩ (fun κ v h => nomatch h)) ?_
  rintro j hj
  have hul := up_len c j
  have hm : j * c.length ≤ 1000 * 1000 := Nat.mul_le_mul (by omega) hc
  repeat' (first|refine zS ?_|refine zR ?_|refine zE tab_ok rfl rfl ?_|refine zN ?_|(refine zG rfl rfl (fun _ => ?_) fun _ => ?_)<;>refine zE tab_ok rfl rfl ?_|(refine zC rfl (fun _ => ?_) fun _ => ?_)<;>try (rename_i h; cases h; done)|refine zB ?_|refine zK ?_|refine zZ ⟨_, rfl, ?_⟩)
  · rename_i h2
    have hlt : j < c.length := by have := of_decide_eq_true h2; omega
    rw [hcl]
    refine Tr.loopS (fun k : Nat => [(.s 1, .ptr (.l 1) 0), (.l 1, .blk 24 [.tr (.ls (c.map svcT))]), (.s 2, .ptr (.l 2) 0), (.l 2, .blk 39 [int 0, .own 44 []]), (.s 3, .ptr (.l 3) 0), (.l 3, .blk 39 [int c.length, .own 44 ((edgesUp c j ++ edgesRow c j k).map edT)]), (.s 12, int c.length), (.s 13, int j),
        (.s 4, int j), (.s 18, int c.length), (.s 19, int k)]) (fun k => c.length - k)
      (fun k => k ≤ c.length) 0 (by omega) (Sub.app (l := [_, _, _, _, _, _, _, _, _, _, _]) (H := []) ⟨rfl, rfl, rfl, rfl, rfl, by rw [row_zero, List.append_nil]; rfl, rfl, rfl, rfl, rfl, rfl, trivial⟩ (fun κ v h => nomatch h)) ?_
    rintro k hk
    have hrl := row_len c j k
    repeat' (first|refine zS ?_|refine zR ?_|refine zE tab_ok rfl rfl ?_|refine zN ?_|(refine zG rfl rfl (fun _ => ?_) fun _ => ?_)<;>refine zE tab_ok rfl rfl ?_|(refine zC rfl (fun _ => ?_) fun _ => ?_)<;>try (rename_i h; cases h; done)|refine zB ?_|refine zK ?_|refine zZ ⟨_, rfl, ?_⟩)
    · rename_i h3
      have hlt2 : k < c.length := by have := of_decide_eq_true h3; omega
      have hA := asks_ok' h k j (by omega) (by omega)
      rw [Int.toNat_natCast] at hA
      cases hb : asks c k j
      · rw [hb] at hA
        refine Sq.callv rfl (hA) ?_
        repeat' (first|refine zS ?_|refine zR ?_|refine zE tab_ok rfl rfl ?_|refine zN ?_|(refine zG rfl rfl (fun _ => ?_) fun _ => ?_)<;>refine zE tab_ok rfl rfl ?_|(refine zC rfl (fun _ => ?_) fun _ => ?_)<;>try (rename_i h; cases h; done)|refine zB ?_|refine zK ?_|refine zZ ⟨_, rfl, ?_⟩)
        exact ⟨k + 1, by omega, by omega, Sub.app (l := [_, _, _, _, _, _, _, _, _, _, _]) (H := []) ⟨rfl, rfl, rfl, rfl, rfl, by rw [row_f hb]; rfl, rfl, rfl, rfl, rfl, congrArg some (wrapz (by omega) (by omega) (by omega)), trivial⟩ (fun κ v h => nomatch h)⟩
      · rw [hb] at hA
        refine Sq.callv rfl (hA) ?_
        repeat' (first|refine zS ?_|refine zR ?_|refine zE tab_ok rfl rfl ?_|refine zN ?_|(refine zG rfl rfl (fun _ => ?_) fun _ => ?_)<;>refine zE tab_ok rfl rfl ?_|(refine zC rfl (fun _ => ?_) fun _ => ?_)<;>try (rename_i h; cases h; done)|refine zB ?_|refine zK ?_|refine zZ ⟨_, rfl, ?_⟩)
        refine Sq.append tab_ok rfl (fun y hy => by simp only [List.mem_singleton] at hy; subst hy; rfl) (by simp; omega) ?_
        repeat' (first|refine zS ?_|refine zR ?_|refine zE tab_ok rfl rfl ?_|refine zN ?_|(refine zG rfl rfl (fun _ => ?_) fun _ => ?_)<;>refine zE tab_ok rfl rfl ?_|(refine zC rfl (fun _ => ?_) fun _ => ?_)<;>try (rename_i h; cases h; done)|refine zB ?_|refine zK ?_|refine zZ ⟨_, rfl, ?_⟩)
        exact ⟨k + 1, by omega, by omega, Sub.app (l := [_, _, _, _, _, _, _, _, _, _, _]) (H := []) ⟨rfl, rfl, rfl, rfl, rfl, by rw [row_t hb, ← List.append_assoc, List.map_append (l₁ := edgesUp c j ++ edgesRow c j k)]; rfl, rfl, rfl, rfl, rfl, congrArg some (wrapz (by omega) (by omega) (by omega)), trivial⟩ (fun κ v h => nomatch h)⟩
    · rename_i h3
      have : k = c.length := by have := of_decide_eq_false h3; omega
      subst this
      refine Tr.exit ?_
      repeat' (first|refine zS ?_|refine zR ?_|refine zE tab_ok rfl rfl ?_|refine zN ?_|(refine zG rfl rfl (fun _ => ?_) fun _ => ?_)<;>refine zE tab_ok rfl rfl ?_|(refine zC rfl (fun _ => ?_) fun _ => ?_)<;>try (rename_i h; cases h; done)|refine zB ?_|refine zK ?_|refine zZ ⟨_, rfl, ?_⟩)
      exact ⟨j + 1, by omega, by omega, Sub.app (l := [_, _, _, _, _, _, _, _]) (H := []) ⟨rfl, rfl, rfl, rfl, rfl, by rw [up_succ]; rfl, rfl, congrArg some (wrapz (by omega) (by omega) (by omega)), trivial⟩ (fun κ v h => nomatch h)⟩
  · rename_i h2
    have : j = c.length := by have := of_decide_eq_false h2; omega
    subst this
    refine Tr.exit ?_
    repeat' (first|refine zS ?_|refine zR ?_|refine zE tab_ok rfl rfl ?_|refine zN ?_|(refine zG rfl rfl (fun _ => ?_) fun _ => ?_)<;>refine zE tab_ok rfl rfl ?_|(refine zC rfl (fun _ => ?_) fun _ => ?_)<;>try (rename_i h; cases h; done)|refine zB ?_|refine zK ?_|refine zZ ⟨_, rfl, ?_⟩)
    rfl
theorem refGraph_ok {c : Ctl} (h : Ctl.ok c) (hc : c.length ≤ 1000) : Fn Tryz.prog Gw 16 [.tr (ctlT c)] [] (· = .tr (grT c.length (edges c))) := by
  have hcl : ((c.map svcT).length : Int) = (c.length : Nat) := by rw [List.length_map]
  refine Fn.of tab_ok Tryz.func16 rfl (by decide) (by simp [Tryz.f16]) rfl (fun κ v h => by cases h) Gw.below ?_
  refine zS ?_
  refine zR ?_
  refine zE tab_ok rfl rfl ?_
  refine zE tab_ok rfl rfl ?_
  refine zN ?_
  refine zS ?_
  refine zR ?_
  refine zE tab_ok rfl rfl ?_
  refine zE tab_ok rfl rfl ?_
  refine zE tab_ok rfl rfl ?_
  rw [hcl]
  refine Sq.buildN tab_ok rfl rfl ?_
  refine zE tab_ok rfl rfl ?_
  refine zE tab_ok rfl rfl ?_
  refine zN ?_
  refine Tr.turn (fun Γ a w h => RelX.nilOwn tab_ok h (.l 3) 41 44 [int c.length] [] rfl rfl rfl) ?_
  repeat' (first|refine zS ?_|refine zR ?_|refine zE tab_ok rfl rfl ?_|refine zN ?_|(refine zG rfl rfl (fun _ => ?_) fun _ => ?_)<;>refine zE tab_ok rfl rfl ?_|(refine zC rfl (fun _ => ?_) fun _ => ?_)<;>try (rename_i h; cases h; done)|refine zB ?_|refine zK ?_|refine zZ ⟨_, rfl, ?_⟩)
  refine Tr.loopS (fun j : Nat => [(.s 1, .ptr (.l 1) 0), (.l 1, .blk 28 [.tr (.ls (c.map svcT))]), (.s 2, .ptr (.l 2) 0), (.l 2, .blk 41 [int 0, .own 44 []]), (.s 3, .ptr (.l 3) 0), (.l 3, .blk 41 [int c.length, .own 44 ((edgesUp c j).map edT)]), (.s 4, int j)]) (fun j => c.length - j)
    (fun j => j ≤ c.length) 0 (by omega) (Sub.app (l := [_, _, _, _, _, _, _]) (H := []) ⟨rfl, rfl, rfl, rfl, rfl, rfl, rfl, trivial⟩ (fun κ v h => nomatch h)) ?_
  rintro j hj
  have hul := up_len c j
  have hm : j * c.length ≤ 1000 * 1000 := Nat.mul_le_mul (by omega) hc
  repeat' (first|refine zS ?_|refine zR ?_|refine zE tab_ok rfl rfl ?_|refine zN ?_|(refine zG rfl rfl (fun _ => ?_) fun _ => ?_)<;>refine zE tab_ok rfl rfl ?_|(refine zC rfl (fun _ => ?_) fun _ => ?_)<;>try (rename_i h; cases h; done)|refine zB ?_|refine zK ?_|refine zZ ⟨_, rfl, ?_⟩)
  · rename_i h2
    have hlt : j < c.length := by have := of_decide_eq_true h2; omega
    refine Tr.loopS (fun k : Nat => [(.s 1, .ptr (.l 1) 0), (.l 1, .blk 28 [.tr (.ls (c.map svcT))]), (.s 2, .ptr (.l 2) 0), (.l 2, .blk 41 [int 0, .own 44 []]), (.s 3, .ptr (.l 3) 0), (.l 3, .blk 41 [int c.length, .own 44 ((edgesUp c j ++ edgesRow c j k).map edT)]), (.s 4, int j), (.s 5, int k)]) (fun k => c.length - k)
      (fun k => k ≤ c.length) 0 (by omega) (Sub.app (l := [_, _, _, _, _, _, _, _]) (H := []) ⟨rfl, rfl, rfl, rfl, rfl, by rw [row_zero, List.append_nil]; rfl, rfl, rfl, trivial⟩ (fun κ v h => nomatch h)) ?_
    rintro k hk
    have hrl := row_len c j k
    repeat' (first|refine zS ?_|refine zR ?_|refine zE tab_ok rfl rfl ?_|refine zN ?_|(refine zG rfl rfl (fun _ => ?_) fun _ => ?_)<;>refine zE tab_ok rfl rfl ?_|(refine zC rfl (fun _ => ?_) fun _ => ?_)<;>try (rename_i h; cases h; done)|refine zB ?_|refine zK ?_|refine zZ ⟨_, rfl, ?_⟩)
    · rename_i h3
      have hlt2 : k < c.length := by have := of_decide_eq_true h3; omega
      have hA := refAsks_ok' h k j (by omega) (by omega)
      rw [Int.toNat_natCast] at hA
      cases hb : asks c k j
      · rw [hb] at hA
        refine Sq.callv rfl (hA) ?_
        repeat' (first|refine zS ?_|refine zR ?_|refine zE tab_ok rfl rfl ?_|refine zN ?_|(refine zG rfl rfl (fun _ => ?_) fun _ => ?_)<;>refine zE tab_ok rfl rfl ?_|(refine zC rfl (fun _ => ?_) fun _ => ?_)<;>try (rename_i h; cases h; done)|refine zB ?_|refine zK ?_|refine zZ ⟨_, rfl, ?_⟩)
        exact ⟨k + 1, by omega, by omega, Sub.app (l := [_, _, _, _, _, _, _, _]) (H := []) ⟨rfl, rfl, rfl, rfl, rfl, by rw [row_f hb]; rfl, rfl, congrArg some (wrapz (by omega) (by omega) (by omega)), trivial⟩ (fun κ v h => nomatch h)⟩
      · rw [hb] at hA
        refine Sq.callv rfl (hA) ?_
        repeat' (first|refine zS ?_|refine zR ?_|refine zE tab_ok rfl rfl ?_|refine zN ?_|(refine zG rfl rfl (fun _ => ?_) fun _ => ?_)<;>refine zE tab_ok rfl rfl ?_|(refine zC rfl (fun _ => ?_) fun _ => ?_)<;>try (rename_i h; cases h; done)|refine zB ?_|refine zK ?_|refine zZ ⟨_, rfl, ?_⟩)
        refine Sq.append tab_ok rfl (fun y hy => by simp only [List.mem_singleton] at hy; subst hy; rfl) (by simp; omega) ?_
        repeat' (first|refine zS ?_|refine zR ?_|refine zE tab_ok rfl rfl ?_|refine zN ?_|(refine zG rfl rfl (fun _ => ?_) fun _ => ?_)<;>refine zE tab_ok rfl rfl ?_|(refine zC rfl (fun _ => ?_) fun _ => ?_)<;>try (rename_i h; cases h; done)|refine zB ?_|refine zK ?_|refine zZ ⟨_, rfl, ?_⟩)
        exact ⟨k + 1, by omega, by omega, Sub.app (l := [_, _, _, _, _, _, _, _]) (H := []) ⟨rfl, rfl, rfl, rfl, rfl, by rw [row_t hb, ← List.append_assoc, List.map_append (l₁ := edgesUp c j ++ edgesRow c j k)]; rfl, rfl, congrArg some (wrapz (by omega) (by omega) (by omega)), trivial⟩ (fun κ v h => nomatch h)⟩
    · rename_i h3
      have : k = c.length := by have := of_decide_eq_false h3; omega
      subst this
      refine Tr.exit ?_
      repeat' (first|refine zS ?_|refine zR ?_|refine zE tab_ok rfl rfl ?_|refine zN ?_|(refine zG rfl rfl (fun _ => ?_) fun _ => ?_)<;>refine zE tab_ok rfl rfl ?_|(refine zC rfl (fun _ => ?_) fun _ => ?_)<;>try (rename_i h; cases h; done)|refine zB ?_|refine zK ?_|refine zZ ⟨_, rfl, ?_⟩)
      exact ⟨j + 1, by omega, by omega, Sub.app (l := [_, _, _, _, _, _, _]) (H := []) ⟨rfl, rfl, rfl, rfl, rfl, by rw [up_succ]; rfl, congrArg some (wrapz (by omega) (by omega) (by omega)), trivial⟩ (fun κ v h => nomatch h)⟩
  · rename_i h2
    have : j = c.length := by have := of_decide_eq_false h2; omega
    subst this
    refine Tr.exit ?_
    repeat' (first|refine zS ?_|refine zR ?_|refine zE tab_ok rfl rfl ?_|refine zN ?_|(refine zG rfl rfl (fun _ => ?_) fun _ => ?_)<;>refine zE tab_ok rfl rfl ?_|(refine zC rfl (fun _ => ?_) fun _ => ?_)<;>try (rename_i h; cases h; done)|refine zB ?_|refine zK ?_|refine zZ ⟨_, rfl, ?_⟩)
    rfl
end Go.Lg.Tryz

set_option linter.unusedVariables false
set_option linter.unusedSimpArgs false
namespace Go.Lg.Tryz
open Go Go.Proofs Go.RowKit Go.Lib Go.Lg.Sem
theorem gCheck_ok (n : Nat) (es : List (Nat × Nat)) (hn : n ≤ 64) (hl : es.length ≤ 4096) (hp : ∀ p, p ∈ es → p.1 < n ∧ p.2 < n) : Fn Tryz.prog Gw 40 [.tr (grT n es)] [] (· = int 0) := by
  refine Fn.of tab_ok Tryz.func40 rfl (by decide) (by simp [Tryz.f40]) rfl (fun κ v h => by cases h) Gw.below ?_
  repeat' (first|refine zS ?_|refine zR ?_|refine zE tab_ok rfl rfl ?_|refine zN ?_|(refine zG rfl rfl (fun _ => ?_) fun _ => ?_)<;>refine zE tab_ok rfl rfl ?_|(refine zC rfl (fun _ => ?_) fun _ => ?_)<;>try (rename_i h; cases h; done)|refine zB ?_|refine zK ?_|refine zZ ⟨_, rfl, ?_⟩)
  · exfalso; simp only [decide_eq_true_eq, decide_eq_false_iff_not, List.length_map] at *; omega
  · exfalso; simp only [decide_eq_true_eq, decide_eq_false_iff_not, List.length_map] at *; omega
  refine Tr.loopS (fun k : Nat => [(.s 1, .ptr (.l 1) 0), (.l 1, .blk 39 [int n, .tr (.ls (es.map edT))]), (.s 20, .tr (.ls (es.map edT))), (.s 21, int (es.map edT).length), (.s 22, int k)]) (fun k => es.length - k)
    (fun k => k ≤ es.length) 0 (by omega) (Sub.app (l := [_, _, _, _, _]) (H := []) ⟨rfl, rfl, rfl, rfl, rfl, trivial⟩ (fun κ v h => nomatch h)) ?_
  rintro k hk
  repeat' (first|refine zS ?_|refine zR ?_|refine zE tab_ok rfl rfl ?_|refine zN ?_|(refine zG rfl rfl (fun _ => ?_) fun _ => ?_)<;>refine zE tab_ok rfl rfl ?_|(refine zC rfl (fun _ => ?_) fun _ => ?_)<;>try (rename_i h; cases h; done)|refine zB ?_|refine zK ?_|refine zZ ⟨_, rfl, ?_⟩)
  · rename_i h2
    have hlt : k < es.length := by simp only [List.length_map, decide_eq_true_eq] at h2; omega
    obtain ⟨p, hpk⟩ : ∃ p, es[k]? = some p := ⟨_, List.getElem?_eq_getElem hlt⟩
    have hpe : (es.map edT)[((k : Nat) : Int).toNat]? = some (edT p) := by simp [hpk]
    obtain ⟨h1, h3⟩ := hp p (List.mem_of_getElem? hpk)
    refine zI (x := edT p) tab_ok rfl (by omega) (hpe) rfl ?_
    repeat' (first|refine zS ?_|refine zR ?_|refine zE tab_ok rfl rfl ?_|refine zN ?_|(refine zG rfl rfl (fun _ => ?_) fun _ => ?_)<;>refine zE tab_ok rfl rfl ?_|(refine zC rfl (fun _ => ?_) fun _ => ?_)<;>try (rename_i h; cases h; done)|refine zB ?_|refine zK ?_|refine zZ ⟨_, rfl, ?_⟩)
    refine Sq.indexA (j := 0) (len := 2) tab_ok rfl (by omega) (by omega) ?_
    refine zE tab_ok rfl rfl ?_
    refine Sq.indexA (j := 1) (len := 2) tab_ok rfl (by omega) (by omega) ?_
    refine zE tab_ok rfl rfl ?_
    refine Sq.minmax rfl ?_
    repeat' (first|refine zS ?_|refine zR ?_|refine zE tab_ok rfl rfl ?_|refine zN ?_|(refine zG rfl rfl (fun _ => ?_) fun _ => ?_)<;>refine zE tab_ok rfl rfl ?_|(refine zC rfl (fun _ => ?_) fun _ => ?_)<;>try (rename_i h; cases h; done)|refine zB ?_|refine zK ?_|refine zZ ⟨_, rfl, ?_⟩)
    refine zG rfl rfl (fun h4 => ?_) (fun h4 => ?_)
    · exfalso
      have h4 := of_decide_eq_true h4
      split at h4 <;> omega
    refine Sq.indexA (j := 0) (len := 2) tab_ok rfl (by omega) (by omega) ?_
    refine zE tab_ok rfl rfl ?_
    refine Sq.indexA (j := 1) (len := 2) tab_ok rfl (by omega) (by omega) ?_
    refine zE tab_ok rfl rfl ?_
    refine Sq.minmax rfl ?_
    repeat' (first|refine zS ?_|refine zR ?_|refine zE tab_ok rfl rfl ?_|refine zN ?_|(refine zG rfl rfl (fun _ => ?_) fun _ => ?_)<;>refine zE tab_ok rfl rfl ?_|(refine zC rfl (fun _ => ?_) fun _ => ?_)<;>try (rename_i h; cases h; done)|refine zB ?_|refine zK ?_|refine zZ ⟨_, rfl, ?_⟩)
    · exfalso
      rename_i h4
      have h4 := of_decide_eq_true h4
      split at h4 <;> omega
    exact ⟨k + 1, by omega, by omega, Sub.app (l := [_, _, _, _, _]) (H := []) ⟨rfl, rfl, rfl, rfl, congrArg some (wrapz (by omega) (by omega) (by omega)), trivial⟩ (fun κ v h => nomatch h)⟩
  · refine Tr.exit ?_
    repeat' (first|refine zS ?_|refine zR ?_|refine zE tab_ok rfl rfl ?_|refine zN ?_|(refine zG rfl rfl (fun _ => ?_) fun _ => ?_)<;>refine zE tab_ok rfl rfl ?_|(refine zC rfl (fun _ => ?_) fun _ => ?_)<;>try (rename_i h; cases h; done)|refine zB ?_|refine zK ?_|refine zZ ⟨_, rfl, ?_⟩)
    rfl
end Go.Lg.Tryz

set_option linter.unusedVariables false
set_option linter.unusedSimpArgs false
namespace Go.Lg
open Go Go.RowKit
section
variable {P : Program} {G : Env} {n : Nat} {tab : Tab} {m : Store}
abbrev u64T (x : BitVec 64) : T := .sc (.int .u64 (x.toNat : Int))
abbrev u64 (x : BitVec 64) : AV := .tr (u64T x)
def bitR : BinOp → BitVec 64 → BitVec 64 → Option (BitVec 64)
  | .and, a, b => some (a &&& b)
  | .or, a, b => some (a ||| b)
  | .andNot, a, b => some (a &&& ~~~b)
  | _, _, _ => none
theorem wrap_bv (r : BitVec 64) : IntKind.u64.wrap (r.toNat : Int) = (r.toNat : Int) := by
  have h := r.isLt
  unfold IntKind.wrap
  have e : (2 : Int) ^ IntKind.u64.bits = 18446744073709551616 := by decide
  have es : IntKind.u64.signed = false := rfl
  rw [e, es]
  simp only [Bool.false_and, Bool.false_eq_true, if_false]
  omega
theorem ofInt_bv (x : BitVec 64) : BitVec.ofInt IntKind.u64.bits (x.toNat : Int) = x := by
  show BitVec.ofInt 64 (x.toNat : Int) = x
  rw [BitVec.ofInt_natCast, BitVec.ofNat_toNat]; simp
theorem bits_run {op : BinOp} {X Y r : BitVec 64} (hr : bitR op X Y = some r) (w : World) : (Op.intBits op .u64 (X.toNat : Int) (Y.toNat : Int)).run P w = .ok (.int .u64 (r.toNat : Int)) w := by
  unfold bitR at hr
  split at hr
  · obtain rfl := Option.some.inj hr
    simp only [Op.intBits, ofInt_bv, Sem.run_pure]
    exact congrArg (fun z => Result.ok (Value.int .u64 z) w) (wrap_bv (X &&& Y))
  · obtain rfl := Option.some.inj hr
    simp only [Op.intBits, ofInt_bv, Sem.run_pure]
    exact congrArg (fun z => Result.ok (Value.int .u64 z) w) (wrap_bv (X ||| Y))
  · obtain rfl := Option.some.inj hr
    simp only [Op.intBits, ofInt_bv, Sem.run_pure]
    exact congrArg (fun z => Result.ok (Value.int .u64 z) w) (wrap_bv (X &&& ~~~Y))
  · cases hr
theorem shr_run (X : BitVec 64) (s : Nat) (hs : s ≤ 63) (ky : IntKind) (w : World) : (Op.shift .shr .u64 (X.toNat : Int) ky (s : Int)).run P w = .ok (.int .u64 ((X >>> s).toNat : Int)) w := by
  have hmin : min ((s : Int).toNat) IntKind.u64.bits = s := by
    have : IntKind.u64.bits = 64 := rfl
    rw [this, Int.toNat_natCast]; omega
  have hn0 : ¬ ((s : Int) < 0) := by omega
  have e : ((X.toNat : Int)).fdiv (2 ^ s) = ((X >>> s).toNat : Int) := by
    rw [BitVec.toNat_ushiftRight, Nat.shiftRight_eq_div_pow, Int.fdiv_eq_ediv_of_nonneg _ (by exact Int.le_of_lt (Int.pow_pos (by decide)))]
    push_cast; rfl
  simp only [Op.shift, if_neg hn0, hmin, Sem.run_pure]
  rw [e]
def evBits (n : Nat) (ops : List Oper) (o : Oper) (m : Store) : Option (BinOp × Int × Int × Nat) := match o.op, o.dst, gOk m ops o.guard with
  | .binOp op _ x y _, some d, true => match Nat.blt d n, opV m x, opV m y with
    | true, some (.tr (.sc (.int .u64 a))), some (.tr (.sc (.int .u64 b))) => some (op, a, b, d)
    | _, _, _ => none
  | _, _, _ => none
theorem Sq.bits {ops l : List Oper} {o : Oper} {op : BinOp} {x y : Int} {d : Nat} {K : Store → Prop} (h : evBits n ops o m = some (op, x, y, d)) (X Y : BitVec 64) {r : BitVec 64} (hx : x = (X.toNat : Int)) (hy : y = (Y.toNat : Int)) (hr : bitR op X Y = some r)
    (k : Sq P G n ops l ((.s d, u64 r) :: m) K) : Sq P G n ops (o :: l) m K := by
  subst hx; subst hy
  obtain ⟨dst, op', type, pos, after, guard⟩ := o
  unfold evBits at h
  simp only at h
  split at h
  · rename_i op2 ty ox oy ty' d' hgd
    split at h
    · rename_i a b hlt hx hy
      simp only [Option.some.injEq, Prod.mk.injEq] at h
      obtain ⟨rfl, rfl, rfl, rfl⟩ := h
      refine Sq.do hgd (fun Γ M Ow a w hrr => ?_) k
      obtain ⟨q1, hq1⟩ := opV_ok hx hrr
      obtain ⟨q2, hq2⟩ := opV_ok hy hrr
      refine ⟨.int .u64 (r.toNat : Int), w, ?_, M, Ow, hrr.put (Nat.lt_of_succ_le (Nat.le_of_ble_eq_true hlt)) (.tr _ _ (.sc _ rfl))⟩
      have key := bits_run (P := P) hr w
      unfold bitR at hr
      split at hr
      · simp [execOp, (sc_eval (Γ := Γ) hq1).1, (sc_eval (Γ := Γ) hq2).1, eqGuard, binOp, key]
      · simp [execOp, (sc_eval (Γ := Γ) hq1).1, (sc_eval (Γ := Γ) hq2).1, eqGuard, binOp, key]
      · simp [execOp, (sc_eval (Γ := Γ) hq1).1, (sc_eval (Γ := Γ) hq2).1, eqGuard, binOp, key]
      · cases hr
    · cases h
  · cases h
def evShift (n : Nat) (ops : List Oper) (o : Oper) (m : Store) : Option (Bool × Int × Int × Nat) := match o.op, o.dst, gOk m ops o.guard with
  | .binOp op _ x y _, some d, true => match Nat.blt d n, opV m x, opV m y with
    | true, some (.tr (.sc (.int .u64 a))), some (.tr (.sc (.int _ b))) => match op with
      | .shl => some (true, a, b, d)
      | .shr => some (false, a, b, d)
      | _ => none
    | _, _, _ => none
  | _, _, _ => none
theorem Sq.shift {ops l : List Oper} {o : Oper} {q : Bool} {x y : Int} {d : Nat} {K : Store → Prop} (h : evShift n ops o m = some (q, x, y, d)) (X : BitVec 64) (s : Nat) (hx : x = (X.toNat : Int)) (hy : y = (s : Int)) (hs : s ≤ 63)
    (k : Sq P G n ops l ((.s d, u64 (if q then X <<< s else X >>> s)) :: m) K) : Sq P G n ops (o :: l) m K := by
  subst hx; subst hy
  obtain ⟨dst, op', type, pos, after, guard⟩ := o
  unfold evShift at h
  simp only at h
  have hmin : min ((s : Int).toNat) IntKind.u64.bits = s := by
    have : IntKind.u64.bits = 64 := rfl
    rw [this, Int.toNat_natCast]; omega
  have hn0 : ¬ ((s : Int) < 0) := by omega
  split at h
  · rename_i op2 ty ox oy ty' d' hgd
    split at h
    · rename_i a ky b hlt hx hy
      split at h
      · simp only [Option.some.injEq, Prod.mk.injEq] at h
        obtain ⟨rfl, rfl, rfl, rfl⟩ := h
        refine Sq.do hgd (fun Γ M Ow a w hrr => ?_) k
        obtain ⟨q1, hq1⟩ := opV_ok hx hrr
        obtain ⟨q2, hq2⟩ := opV_ok hy hrr
        refine ⟨_, w, ?_, M, Ow, hrr.put (Nat.lt_of_succ_le (Nat.le_of_ble_eq_true hlt)) (.tr _ _ (.sc _ rfl))⟩
        simp only [execOp, (sc_eval (Γ := Γ) hq1).1, (sc_eval (Γ := Γ) hq2).1]
        have e : IntKind.u64.wrap ((X.toNat : Int) * 2 ^ s) = ((X <<< s).toNat : Int) := by
          rw [← wrap_bv (X <<< s), BitVec.toNat_shiftLeft, Nat.shiftLeft_eq]
          unfold IntKind.wrap
          have e : (2 : Int) ^ IntKind.u64.bits = 18446744073709551616 := by decide
          have es : IntKind.u64.signed = false := rfl
          rw [e, es]
          simp only [Bool.false_and, Bool.false_eq_true, if_false]
          have : ((X.toNat : Int) * 2 ^ s) = ((X.toNat * 2 ^ s : Nat) : Int) := by push_cast; rfl
          rw [this]
          omega
        simp [eqGuard, binOp, Op.shift, hn0, hmin]
        exact e
      · simp only [Option.some.injEq, Prod.mk.injEq] at h
        obtain ⟨rfl, rfl, rfl, rfl⟩ := h
        refine Sq.do hgd (fun Γ M Ow a w hrr => ?_) k
        obtain ⟨q1, hq1⟩ := opV_ok hx hrr
        obtain ⟨q2, hq2⟩ := opV_ok hy hrr
        refine ⟨_, w, ?_, M, Ow, hrr.put (Nat.lt_of_succ_le (Nat.le_of_ble_eq_true hlt)) (.tr _ _ (.sc _ rfl))⟩
        have key := shr_run (P := P) X s hs ky w
        simp only [if_neg Bool.false_ne_true]
        simp only [execOp, (sc_eval (Γ := Γ) hq1).1, (sc_eval (Γ := Γ) hq2).1]
        simp [eqGuard, binOp, key]
        try (rw [Int.shiftRight_eq_div_pow]; push_cast; rfl)
      · cases h
    · cases h
  · cases h
theorem refsL_tr (κ : Loc) : ∀ xs : List T, refsL κ (xs.map AV.tr) = false
  | [] => rfl
  | x :: xs => by simp [refsL, AV.refs, refsL_tr κ xs]
theorem DSq.blk {ops l : List Oper} {o : Oper} {rs : List (Loc × AV)} {κ : Loc} {v : AV} {m' : Store} {fs : List Fp} (hr : rdO m ops o = some rs)
    (hsq : ∀ (q : Store) (K : Store → Prop), K ((κ, v) :: (rs ++ q)) → Sq P G n ops [o] (rs ++ q) K) (k : DSq P G n ops l ((κ, v) :: m) fs m') : DSq P G n ops (o :: l) m (⟨[], rs, [(κ, v)]⟩ :: fs) m' :=
  .cons o l m ⟨[], rs, [(κ, v)]⟩ fs m' ⟨rfl, fun q _ => GStp.of fun K hK => hsq q K hK⟩ (rdO_sat hr) rfl k
end
end Go.Lg

set_option linter.unusedVariables false
set_option linter.unusedSimpArgs false
namespace Go.Lg.Sem
open Go
def stepA (l : List (BitVec 64)) (p : Nat × Nat) : List (BitVec 64) := l.set p.2 (l.getD p.2 0 ||| (1#64 <<< p.1))
def aheadV (n : Nat) (es : List (Nat × Nat)) : List (BitVec 64) := es.foldl stepA (List.replicate n 0)
theorem ahead_len (n : Nat) (es : List (Nat × Nat)) : (aheadV n es).length = n := by
  have : ∀ (es : List (Nat × Nat)) (l : List (BitVec 64)), (es.foldl stepA l).length = l.length := by
    intro es
    induction es with
    | nil => intro l; rfl
    | cons p es ih => intro l; rw [List.foldl_cons, ih]; simp [stepA]
  unfold aheadV
  rw [this]; simp
theorem ahead_succ {n k : Nat} {es : List (Nat × Nat)} {p : Nat × Nat} (h : es[k]? = some p) : aheadV n (es.take (k + 1)) = stepA (aheadV n (es.take k)) p := by
  have hk := (List.getElem?_eq_some_iff.1 h).1
  have he : es[k] = p := by rw [List.getElem?_eq_getElem hk] at h; exact Option.some.inj h
  unfold aheadV
  rw [List.take_succ_eq_append_getElem hk, List.foldl_append, he]; rfl
def readyB (a set : BitVec 64) (i : Nat) : Bool := (set >>> i) &&& 1#64 == 0#64 && (a &&& ~~~set == 0#64)
def readyUp (A : List (BitVec 64)) (set : BitVec 64) : Nat → BitVec 64
  | 0 => 0#64
  | k + 1 => match A[k]? with
    | some a => if readyB a set k then readyUp A set k ||| (1#64 <<< k) else readyUp A set k
    | none => readyUp A set k
def readyV (n : Nat) (es : List (Nat × Nat)) (set : BitVec 64) : BitVec 64 := readyUp (aheadV n es) set n
theorem bv_zero (x : BitVec 64) : ((x.toNat : Int) == 0) = (x == 0#64) := by
  rw [Bool.eq_iff_iff, beq_iff_eq, beq_iff_eq]
  constructor
  · intro h; exact BitVec.eq_of_toNat_eq (by simp; omega)
  · intro h; subst h; rfl
end Go.Lg.Sem

set_option linter.unusedVariables false
set_option linter.unusedSimpArgs false
namespace Go.Lg.Tryz
open Go Go.Proofs Go.RowKit Go.Lib Go.Lg.Sem
theorem ahead_ok (n : Nat) (es : List (Nat × Nat)) (hn : n ≤ 64) (hl : es.length ≤ 4096) (hp : ∀ p, p ∈ es → p.1 < n ∧ p.2 < n) : Fn Tryz.prog Gw 69 [.tr (grT n es)] [] (· = .tr (.ls ((aheadV n es).map u64T))) := by
  refine Fn.of tab_ok Tryz.func69 rfl (by decide) (by simp [Tryz.f69]) rfl (fun κ v h => by cases h) Gw.below ?_
  refine zS ?_
  refine zR ?_
  refine zE tab_ok rfl rfl ?_
  refine zE tab_ok rfl rfl ?_
  refine zN ?_
  refine zS ?_
  refine zR ?_
  refine zE tab_ok rfl rfl ?_
  refine zE tab_ok rfl rfl ?_
  refine Sq.make tab_ok rfl rfl (by omega) (by omega) (by omega) rfl ?_
  refine zE tab_ok rfl rfl ?_
  refine zN ?_
  refine Tr.cut [(.s 3, .sl (.l 8) n n), (.l 8, .blk 103 (((aheadV n es).map u64T).map .tr))] ?_ ?_
  · repeat' (first|refine zS ?_|refine zR ?_|refine zE tab_ok rfl rfl ?_|refine zN ?_|(refine zG rfl rfl (fun _ => ?_) fun _ => ?_)<;>refine zE tab_ok rfl rfl ?_|(refine zC rfl (fun _ => ?_) fun _ => ?_)<;>try (rename_i h; cases h; done)|refine zB ?_|refine zK ?_|refine zZ ⟨_, rfl, ?_⟩)
    refine Tr.loopS (fun k : Nat => [(.s 1, .ptr (.l 1) 0), (.l 1, .blk 39 [int n, .tr (.ls (es.map edT))]), (.s 3, .sl (.l 8) n n), (.l 8, .blk 103 (((aheadV n (es.take k)).map u64T).map .tr)), (.s 10, .tr (.ls (es.map edT))), (.s 11, int (es.map edT).length), (.s 12, int k)]) (fun k => es.length - k)
      (fun k => k ≤ es.length) 0 (by omega) (Sub.app (l := [_, _, _, _, _, _, _]) (H := []) ⟨rfl, rfl, rfl, by rw [List.take_zero]; show some (AV.blk _ (List.replicate n _)) = some (AV.blk _ (((List.replicate n (0 : BitVec 64)).map u64T).map .tr)); rw [List.map_replicate, List.map_replicate]; rfl, rfl, rfl, rfl, trivial⟩ (fun κ v h => nomatch h)) ?_
    rintro k hk
    repeat' (first|refine zS ?_|refine zR ?_|refine zE tab_ok rfl rfl ?_|refine zN ?_|(refine zG rfl rfl (fun _ => ?_) fun _ => ?_)<;>refine zE tab_ok rfl rfl ?_|(refine zC rfl (fun _ => ?_) fun _ => ?_)<;>try (rename_i h; cases h; done)|refine zB ?_|refine zK ?_|refine zZ ⟨_, rfl, ?_⟩)
    · rename_i h2
      have hlt : k < es.length := by simp only [List.length_map, decide_eq_true_eq] at h2; omega
      obtain ⟨p, hpk⟩ : ∃ p, es[k]? = some p := ⟨_, List.getElem?_eq_getElem hlt⟩
      have hpe : (es.map edT)[((k : Nat) : Int).toNat]? = some (edT p) := by simp [hpk]
      obtain ⟨h1, h3⟩ := hp p (List.mem_of_getElem? hpk)
      have hst := ahead_succ (n := n) hpk
      have hlen := ahead_len n (es.take k)
      generalize aheadV n (es.take k) = A at *
      obtain ⟨x, hx⟩ : ∃ x, A[p.2]? = some x := ⟨_, List.getElem?_eq_getElem (by omega)⟩
      have hxe : ((A.map u64T).map AV.tr)[((p.2 : Nat) : Int).toNat * 1]? = some (u64 x) := by simp [hx]
      refine zI (x := edT p) tab_ok rfl (by omega) (hpe) rfl ?_
      refine zE tab_ok rfl rfl ?_
      refine zE tab_ok rfl (by simp [-List.map_map, freshB, pinB, refsM, AV.refs, refsL_tr, refsL, Loc.eqb]; decide) ?_
      refine zE tab_ok rfl rfl ?_
      refine zN ?_
      refine Tr.drawn ( zD tab_ok rfl rfl <| zO rfl (fun q K hK => Sq.indexA (j := 1) (len := 2) tab_ok rfl (by omega) (by omega) (zN hK)) <| zD tab_ok rfl rfl <| zO rfl (fun q K hK => Sq.indexS (j := ((p.2 : Nat) : Int)) (len := n) tab_ok rfl (by omega) (by omega) (zN hK)) <| zO rfl (fun q K hK => Sq.loadS (v := u64 x) tab_ok rfl hxe (zN hK)) <| zO rfl (fun q K hK => Sq.indexA (j := 0) (len := 2) tab_ok rfl (by omega) (by omega) (zN hK)) <| zD tab_ok rfl rfl <| zO rfl (fun q K hK => Sq.shift rfl 1#64 p.1 rfl rfl (by omega) (zN hK)) <| zO rfl (fun q K hK => Sq.bits rfl x (1#64 <<< p.1) (r := x ||| (1#64 <<< p.1)) rfl rfl rfl (zN hK)) <| zO rfl (fun q K hK => Sq.indexS (j := ((p.2 : Nat) : Int)) (len := n) tab_ok rfl (by omega) (by omega) (zN hK)) <| DSq.blk rfl (fun q K hK => Sq.storeS tab_ok rfl (by show ((p.2 : Nat) : Int).toNat * 1 < ((A.map u64T).map AV.tr).length; rw [List.length_map, List.length_map]; omega) (zN hK)) <| DSq.nil _) mix_ok rfl ?_
      repeat' (first|refine zS ?_|refine zR ?_|refine zE tab_ok rfl rfl ?_|refine zN ?_|(refine zG rfl rfl (fun _ => ?_) fun _ => ?_)<;>refine zE tab_ok rfl rfl ?_|(refine zC rfl (fun _ => ?_) fun _ => ?_)<;>try (rename_i h; cases h; done)|refine zB ?_|refine zK ?_|refine zZ ⟨_, rfl, ?_⟩)
      have hset : ((A.map u64T).map AV.tr).set (((p.2 : Nat) : Int).toNat * 1) (u64 (x ||| (1#64 <<< p.1))) = ((stepA A p).map u64T).map AV.tr := by
        unfold stepA
        rw [Int.toNat_natCast, Nat.mul_one, List.map_set, List.map_set]
        congr 2
        rw [List.getD_eq_getElem?_getD, hx]; rfl
      exact ⟨k + 1, by omega, by omega, Sub.app (l := [_, _, _, _, _, _, _]) (H := []) ⟨rfl, rfl, rfl, by rw [hst, ← hset]; rfl, rfl, rfl, congrArg some (wrapz (by omega) (by omega) (by omega)), trivial⟩ (fun κ v h => nomatch h)⟩
    · rename_i h2
      have hge : es.length ≤ k := by simp only [List.length_map, decide_eq_false_iff_not] at h2; omega
      rw [List.take_of_length_le hge]
      refine Tr.exit ?_
      exact SubL.sub (m' := [_, _]) ⟨rfl, rfl, trivial⟩
  refine Tr.turn (fun Γ a w h => RelX.freeze1 (xs := (aheadV n es).map u64T) (cap := n) h (s := 3) (κ := .l 8) ?_ rfl rfl ?_) ?_
  · show some (AV.sl _ _ _) = some (AV.sl _ _ _)
    rw [List.length_map, ahead_len]
  · intro y hy
    obtain ⟨v, _, rfl⟩ := List.mem_map.1 hy
    rfl
  repeat' (first|refine zS ?_|refine zR ?_|refine zE tab_ok rfl rfl ?_|refine zN ?_|(refine zG rfl rfl (fun _ => ?_) fun _ => ?_)<;>refine zE tab_ok rfl rfl ?_|(refine zC rfl (fun _ => ?_) fun _ => ?_)<;>try (rename_i h; cases h; done)|refine zB ?_|refine zK ?_|refine zZ ⟨_, rfl, ?_⟩)
  rfl
end Go.Lg.Tryz

set_option linter.unusedVariables false
set_option linter.unusedSimpArgs false
namespace Go.Lg.Tryz
open Go Go.Proofs Go.RowKit Go.Lib Go.Lg.Sem
theorem ready_ok (n : Nat) (es : List (Nat × Nat)) (set : BitVec 64) (hn : n ≤ 64) (hl : es.length ≤ 4096) (hp : ∀ p, p ∈ es → p.1 < n ∧ p.2 < n) : Fn Tryz.prog Gw 41 [.tr (grT n es), u64 set] [] (· = u64 (readyV n es set)) := by
  have hA := ahead_ok n es hn hl hp
  have hlen := ahead_len n es
  unfold readyV
  generalize aheadV n es = A at *
  refine Fn.of tab_ok Tryz.func41 rfl (by decide) (by simp [Tryz.f41]) rfl (fun κ v h => by cases h) Gw.below ?_
  repeat' (first|refine zS ?_|refine zR ?_|refine zE tab_ok rfl rfl ?_|refine zN ?_|(refine zG rfl rfl (fun _ => ?_) fun _ => ?_)<;>refine zE tab_ok rfl rfl ?_|(refine zC rfl (fun _ => ?_) fun _ => ?_)<;>try (rename_i h; cases h; done)|refine zB ?_|refine zK ?_|refine zZ ⟨_, rfl, ?_⟩)
  refine Sq.callv rfl (hA) ?_
  repeat' (first|refine zS ?_|refine zR ?_|refine zE tab_ok rfl rfl ?_|refine zN ?_|(refine zG rfl rfl (fun _ => ?_) fun _ => ?_)<;>refine zE tab_ok rfl rfl ?_|(refine zC rfl (fun _ => ?_) fun _ => ?_)<;>try (rename_i h; cases h; done)|refine zB ?_|refine zK ?_|refine zZ ⟨_, rfl, ?_⟩)
  refine Tr.loopS (fun k : Nat => [(.s 1, u64 set), (.s 5, u64 (readyUp A set k)), (.s 9, .tr (.ls (A.map u64T))), (.s 10, int (A.map u64T).length), (.s 11, int k)]) (fun k => n - k)
    (fun k => k ≤ n) 0 (by omega) (Sub.app (l := [_, _, _, _, _]) (H := []) ⟨rfl, rfl, rfl, rfl, rfl, trivial⟩ (fun κ v h => nomatch h)) ?_
  rintro k hk
  repeat' (first|refine zS ?_|refine zR ?_|refine zE tab_ok rfl rfl ?_|refine zN ?_|(refine zG rfl rfl (fun _ => ?_) fun _ => ?_)<;>refine zE tab_ok rfl rfl ?_|(refine zC rfl (fun _ => ?_) fun _ => ?_)<;>try (rename_i h; cases h; done)|refine zB ?_|refine zK ?_|refine zZ ⟨_, rfl, ?_⟩)
  · rename_i h2
    have hlt : k < n := by simp only [List.length_map, decide_eq_true_eq] at h2; omega
    obtain ⟨a, ha⟩ : ∃ a, A[k]? = some a := ⟨_, List.getElem?_eq_getElem (by omega)⟩
    have hae : (A.map u64T)[((k : Nat) : Int).toNat]? = some (u64T a) := by simp [ha]
    have hst : readyUp A set (k + 1) = if readyB a set k then readyUp A set k ||| (1#64 <<< k) else readyUp A set k := by
      show (match A[k]? with | some a => _ | none => _) = _
      rw [ha]
    generalize readyUp A set k = r at *
    refine zI (x := u64T a) tab_ok rfl (by omega) (hae) rfl ?_
    repeat' (first|refine zS ?_|refine zR ?_|refine zE tab_ok rfl rfl ?_|refine zN ?_|(refine zG rfl rfl (fun _ => ?_) fun _ => ?_)<;>refine zE tab_ok rfl rfl ?_|(refine zC rfl (fun _ => ?_) fun _ => ?_)<;>try (rename_i h; cases h; done)|refine zB ?_|refine zK ?_|refine zZ ⟨_, rfl, ?_⟩)
    refine Sq.shift rfl set k rfl rfl (by omega) ?_
    refine Sq.bits rfl (set >>> k) 1#64 (r := set >>> k &&& 1#64) rfl rfl rfl ?_
    repeat' (first|refine zS ?_|refine zR ?_|refine zE tab_ok rfl rfl ?_|refine zN ?_|(refine zG rfl rfl (fun _ => ?_) fun _ => ?_)<;>refine zE tab_ok rfl rfl ?_|(refine zC rfl (fun _ => ?_) fun _ => ?_)<;>try (rename_i h; cases h; done)|refine zB ?_|refine zK ?_|refine zZ ⟨_, rfl, ?_⟩)
    · rename_i h4
      have h4 : (((set >>> k &&& 1#64).toNat : Int) == 0) = true := h4
      rw [bv_zero] at h4
      refine Sq.bits rfl a set (r := a &&& ~~~set) rfl rfl rfl ?_
      repeat' (first|refine zS ?_|refine zR ?_|refine zE tab_ok rfl rfl ?_|refine zN ?_|(refine zG rfl rfl (fun _ => ?_) fun _ => ?_)<;>refine zE tab_ok rfl rfl ?_|(refine zC rfl (fun _ => ?_) fun _ => ?_)<;>try (rename_i h; cases h; done)|refine zB ?_|refine zK ?_|refine zZ ⟨_, rfl, ?_⟩)
      · rename_i h5
        have h5 : (((a &&& ~~~set).toNat : Int) == 0) = true := h5
        rw [bv_zero] at h5
        refine Sq.shift rfl 1#64 k rfl rfl (by omega) ?_
        refine Sq.bits rfl r (1#64 <<< k) (r := r ||| (1#64 <<< k)) rfl rfl rfl ?_
        repeat' (first|refine zS ?_|refine zR ?_|refine zE tab_ok rfl rfl ?_|refine zN ?_|(refine zG rfl rfl (fun _ => ?_) fun _ => ?_)<;>refine zE tab_ok rfl rfl ?_|(refine zC rfl (fun _ => ?_) fun _ => ?_)<;>try (rename_i h; cases h; done)|refine zB ?_|refine zK ?_|refine zZ ⟨_, rfl, ?_⟩)
        exact ⟨k + 1, by omega, by omega, Sub.app (l := [_, _, _, _, _]) (H := []) ⟨rfl, by rw [hst.trans (if_pos (show readyB a set k = true by unfold readyB; rw [h4, h5]; rfl))]; rfl, rfl, rfl, congrArg some (wrapz (by omega) (by omega) (by omega)), trivial⟩ (fun κ v h => nomatch h)⟩
      · rename_i h5
        have h5 : (((a &&& ~~~set).toNat : Int) == 0) = false := h5
        rw [bv_zero] at h5
        exact ⟨k + 1, by omega, by omega, Sub.app (l := [_, _, _, _, _]) (H := []) ⟨rfl, by rw [hst.trans (if_neg (show ¬ readyB a set k = true by unfold readyB; rw [h5]; simp))]; rfl, rfl, rfl, congrArg some (wrapz (by omega) (by omega) (by omega)), trivial⟩ (fun κ v h => nomatch h)⟩
    · rename_i h4 _
      have h4 : (((set >>> k &&& 1#64).toNat : Int) == 0) = false := h4
      rw [bv_zero] at h4
      exact ⟨k + 1, by omega, by omega, Sub.app (l := [_, _, _, _, _]) (H := []) ⟨rfl, by rw [hst.trans (if_neg (show ¬ readyB a set k = true by unfold readyB; rw [h4]; simp))]; rfl, rfl, rfl, congrArg some (wrapz (by omega) (by omega) (by omega)), trivial⟩ (fun κ v h => nomatch h)⟩
  · rename_i h2
    have hge : n ≤ k := by simp only [List.length_map, decide_eq_false_iff_not] at h2; omega
    have : k = n := by omega
    subst this
    refine Tr.exit ?_
    repeat' (first|refine zS ?_|refine zR ?_|refine zE tab_ok rfl rfl ?_|refine zN ?_|(refine zG rfl rfl (fun _ => ?_) fun _ => ?_)<;>refine zE tab_ok rfl rfl ?_|(refine zC rfl (fun _ => ?_) fun _ => ?_)<;>try (rename_i h; cases h; done)|refine zB ?_|refine zK ?_|refine zZ ⟨_, rfl, ?_⟩)
    rfl
end Go.Lg.Tryz

set_option linter.unusedVariables false
set_option linter.unusedSimpArgs false
namespace Go.Lg
open Go Go.RowKit
section
variable {P : Program} {G : Env} {n : Nat} {tab : Tab} {m : Store}
def evI2f (n : Nat) (ops : List Oper) (o : Oper) (m : Store) : Option (TypeId × TypeId × Int × Nat) := match o.op, o.dst, gOk m ops o.guard with
  | .convert s t x, some d, true => match Nat.blt d n, opV m x with
    | true, some (.tr (.sc (.int _ a))) => some (s, t, a, d)
    | _, _ => none
  | _, _, _ => none
theorem Sq.i2f {ops l : List Oper} {o : Oper} {s t : TypeId} {x : Int} {d : Nat} {K : Store → Prop} (h : evI2f n ops o m = some (s, t, x, d)) (hs : (P.underlying s).isSome = true) (ht : P.underlying t = some (.float .f64))
    (k : Sq P G n ops l ((.s d, .tr (.sc (.float .f64 (floatOfInt .f64 x)))) :: m) K) : Sq P G n ops (o :: l) m K := by
  obtain ⟨dst, op', type, pos, after, guard⟩ := o
  unfold evI2f at h
  simp only at h
  split at h
  · rename_i s0 t0 ox d' hgd
    split at h
    · rename_i q a hlt hx
      simp only [Option.some.injEq, Prod.mk.injEq] at h
      obtain ⟨rfl, rfl, rfl, rfl⟩ := h
      refine Sq.do hgd (fun Γ M Ow a w hrr => ?_) k
      obtain ⟨q1, hq1⟩ := opV_ok hx hrr
      refine ⟨_, w, ?_, M, Ow, hrr.put (Nat.lt_of_succ_le (Nat.le_of_ble_eq_true hlt)) (.tr _ _ (.sc _ rfl))⟩
      simp [execOp, (sc_eval (Γ := Γ) hq1).1, run_convert_int_float w s0 t0 _ _ _ hs ht]
    · cases h
  · cases h
theorem cplx_run (ts : Array TypeId) (t : TypeId) (a b : Nat) : Builtin.complex_ ts t #[.float .f64 a, .float .f64 b] = (pure (.complex .f64 a b) : Sem Value) := rfl
def evCplx (n : Nat) (ops : List Oper) (o : Oper) (m : Store) : Option (Nat × Nat × Nat) := match o.op, o.dst, gOk m ops o.guard with
  | .call c, some d, true => match Nat.blt d n, c.callee, c.args.toList with
    | true, .builtin .complex, [x, y] => match opV m x, opV m y with
      | some (.tr (.sc (.float .f64 a))), some (.tr (.sc (.float .f64 b))) => some (a, b, d)
      | _, _ => none
    | _, _, _ => none
  | _, _, _ => none
theorem Sq.cplx {ops l : List Oper} {o : Oper} {x y : Nat} {d : Nat} {K : Store → Prop} (h : evCplx n ops o m = some (x, y, d)) (k : Sq P G n ops l ((.s d, .tr (.sc (.complex .f64 x y))) :: m) K) : Sq P G n ops (o :: l) m K := by
  obtain ⟨dst, op', type, pos, after, guard⟩ := o
  unfold evCplx at h
  simp only at h
  split at h
  · rename_i c d' hgd
    split at h
    · rename_i ox oy hlt hcal hargs
      split at h
      · rename_i a b hx hy
        simp only [Option.some.injEq, Prod.mk.injEq] at h
        obtain ⟨rfl, rfl, rfl⟩ := h
        refine Sq.do hgd (fun Γ M Ow a w hrr => ?_) k
        obtain ⟨q1, hq1⟩ := opV_ok hx hrr
        obtain ⟨q2, hq2⟩ := opV_ok hy hrr
        refine ⟨_, w, ?_, M, Ow, hrr.put (Nat.lt_of_succ_le (Nat.le_of_ble_eq_true hlt)) (.tr _ _ (.sc _ rfl))⟩
        obtain ⟨cal, args, argT⟩ := c
        simp only at hcal hargs
        subst hcal
        have : args = #[ox, oy] := by apply Array.toList_inj.1; simpa using hargs
        subst this
        simp [execOp, resolve, invoke, builtin, cplx_run, (sc_eval (Γ := Γ) hq1).1, (sc_eval (Γ := Γ) hq2).1]
      · cases h
    · cases h
  · cases h
end
end Go.Lg

set_option linter.unusedVariables false
set_option linter.unusedSimpArgs false
namespace Go.Lg.Tryz
open Go Go.Proofs Go.RowKit Go.Lib Go.Lg.Sem
abbrev placeT (v f : Int) : T := .sc (.complex .f64 (floatOfInt .f64 v) (floatOfInt .f64 f))
theorem at_ok (v f : Int) (h1 : 0 ≤ v) (h2 : 0 ≤ f) (h3 : v ≤ 1048576) (h4 : f ≤ 1048576) : Fn Tryz.prog Gw 45 [int v, int f] [] (· = .tup [.tr (placeT v f), int 0]) := by
  refine Fn.of tab_ok Tryz.func45 rfl (by decide) (by simp [Tryz.f45]) rfl (fun κ v h => by cases h) Gw.below ?_
  repeat' (first|refine zS ?_|refine zR ?_|refine zE tab_ok rfl rfl ?_|refine zN ?_|(refine zG rfl rfl (fun _ => ?_) fun _ => ?_)<;>refine zE tab_ok rfl rfl ?_|(refine zC rfl (fun _ => ?_) fun _ => ?_)<;>try (rename_i h; cases h; done)|refine zB ?_|refine zK ?_|refine zZ ⟨_, rfl, ?_⟩)
  refine Sq.minmax rfl ?_
  refine zE tab_ok rfl rfl ?_
  refine zE tab_ok rfl rfl ?_
  refine zG rfl rfl (fun h5 => ?_) (fun h5 => ?_)
  · exfalso
    have h5 := of_decide_eq_true h5
    split at h5 <;> omega
  refine zE tab_ok rfl rfl ?_
  refine zE tab_ok rfl rfl ?_
  refine Sq.minmax rfl ?_
  repeat' (first|refine zS ?_|refine zR ?_|refine zE tab_ok rfl rfl ?_|refine zN ?_|(refine zG rfl rfl (fun _ => ?_) fun _ => ?_)<;>refine zE tab_ok rfl rfl ?_|(refine zC rfl (fun _ => ?_) fun _ => ?_)<;>try (rename_i h; cases h; done)|refine zB ?_|refine zK ?_|refine zZ ⟨_, rfl, ?_⟩)
  · exfalso
    rename_i h6
    have h6 := of_decide_eq_true h6
    split at h6 <;> omega
  refine Sq.i2f rfl (by rw [Tryz.underlying3]; rfl) Tryz.underlying110 ?_
  refine zE tab_ok rfl rfl ?_
  refine Sq.i2f rfl (by rw [Tryz.underlying3]; rfl) Tryz.underlying110 ?_
  refine Sq.cplx rfl ?_
  repeat' (first|refine zS ?_|refine zR ?_|refine zE tab_ok rfl rfl ?_|refine zN ?_|(refine zG rfl rfl (fun _ => ?_) fun _ => ?_)<;>refine zE tab_ok rfl rfl ?_|(refine zC rfl (fun _ => ?_) fun _ => ?_)<;>try (rename_i h; cases h; done)|refine zB ?_|refine zK ?_|refine zZ ⟨_, rfl, ?_⟩)
  rfl
end Go.Lg.Tryz

set_option linter.unusedVariables false
set_option linter.unusedSimpArgs false
namespace Go.Lg.Tryz
open Go Go.Proofs Go.RowKit Go.Lib Go.Lg.Sem
abbrev intT (v : Int) : T := .sc (.int .i64 v)
def okAt (c : Ctl) (vs : List Int) (i : Nat) : Bool := match vs[i]? with
  | some v => (relAt c i v).isSome
  | none => false
def rightV (c : Ctl) (vs : List Int) : Bool := decide (vs.length = c.length) && (List.range vs.length).all (okAt c vs)
def placeAt (c : Ctl) (vs : List Int) (i : Nat) : T := match vs[i]? with
  | some v => match relAt c i v with
    | some r => placeT v (2 * r.level)
    | none => placeT 0 0
  | none => placeT 0 0
def settledA (c : Ctl) (vs : List Int) : AV := if rightV c vs then .tup [.tr (.ls ((List.range vs.length).map (placeAt c vs))), int 0] else .tup [.tr (.ls []), int 42]
theorem Settled_ok {c : Ctl} (hc : c.length ≤ 1000000) (hr : ∀ s, s ∈ c → s.rels.length ≤ 12 ∧ ∀ r, r ∈ s.rels → 0 ≤ r.level ∧ r.level ≤ 1000) (vs : List Int) :
    Fn Tryz.prog Gw 22 [.tr (ctlT c), .tr (.ls (vs.map intT))] [] (· = settledA c vs) := by
  by_cases hl : vs.length = c.length
  case neg =>
    have hA : settledA c vs = .tup [.tr (.ls []), int 42] := by unfold settledA rightV; rw [decide_eq_false hl]; rfl
    rw [hA]
    refine Fn.of tab_ok Tryz.func22 rfl (by decide) (by simp [Tryz.f22]) rfl (fun κ v h => by cases h) Gw.below ?_
    repeat' (first|refine zS ?_|refine zR ?_|refine zE tab_ok rfl rfl ?_|refine zN ?_|(refine zG rfl rfl (fun _ => ?_) fun _ => ?_)<;>refine zE tab_ok rfl rfl ?_|(refine zC rfl (fun _ => ?_) fun _ => ?_)<;>try (rename_i h; cases h; done)|refine zB ?_|refine zK ?_|refine zZ ⟨_, rfl, ?_⟩)
    · rfl
    · rename_i h; exfalso
      have h : (((vs.map intT).length : Int) != ((c.map svcT).length : Int)) = false := h
      rw [List.length_map, List.length_map] at h
      simp at h; omega
  refine Fn.of tab_ok Tryz.func22 rfl (by decide) (by simp [Tryz.f22]) rfl (fun κ v h => by cases h) Gw.below ?_
  repeat' (first|refine zS ?_|refine zR ?_|refine zE tab_ok rfl rfl ?_|refine zN ?_|(refine zG rfl rfl (fun _ => ?_) fun _ => ?_)<;>refine zE tab_ok rfl rfl ?_|(refine zC rfl (fun _ => ?_) fun _ => ?_)<;>try (rename_i h; cases h; done)|refine zB ?_|refine zK ?_|refine zZ ⟨_, rfl, ?_⟩)
  · rename_i h; exfalso
    have h : (((vs.map intT).length : Int) != ((c.map svcT).length : Int)) = true := h
    rw [List.length_map, List.length_map] at h
    simp at h; omega
  refine Tr.loopS (fun k : Nat => [(.s 1, .tr (.ls (vs.map intT))), (.s 2, .ptr (.l 2) 0), (.l 2, .blk 24 [.tr (.ls (c.map svcT))]), (.s 6, .own 61 ((List.range k).map (placeAt c vs))), (.s 17, .tr (.ls (vs.map intT))), (.s 18, int (vs.map intT).length), (.s 19, int k)]) (fun k => vs.length - k)
    (fun k => k ≤ vs.length ∧ (List.range k).all (okAt c vs) = true) 0 ⟨by omega, rfl⟩ (Sub.app (l := [_, _, _, _, _, _, _]) (H := []) ⟨rfl, rfl, rfl, rfl, rfl, rfl, rfl, trivial⟩ (fun κ v h => nomatch h)) ?_
  rintro k ⟨hk, hp⟩
  repeat' (first|refine zS ?_|refine zR ?_|refine zE tab_ok rfl rfl ?_|refine zN ?_|(refine zG rfl rfl (fun _ => ?_) fun _ => ?_)<;>refine zE tab_ok rfl rfl ?_|(refine zC rfl (fun _ => ?_) fun _ => ?_)<;>try (rename_i h; cases h; done)|refine zB ?_|refine zK ?_|refine zZ ⟨_, rfl, ?_⟩)
  · rename_i h2
    have hlt : k < vs.length := by simp only [List.length_map, decide_eq_true_eq] at h2; omega
    obtain ⟨v, hv⟩ : ∃ v, vs[k]? = some v := ⟨_, List.getElem?_eq_getElem hlt⟩
    have hve : (vs.map intT)[((k : Nat) : Int).toNat]? = some (intT v) := by simp [hv]
    obtain ⟨s, hs⟩ : ∃ s, c[k]? = some s := ⟨_, List.getElem?_eq_getElem (by omega)⟩
    have hs' : c[((k : Nat) : Int).toNat]? = some s := by simpa using hs
    have hsm : s ∈ c := List.mem_of_getElem? hs
    have hse : (c.map svcT)[((k : Nat) : Int).toNat]? = some (svcT s) := by simp [hs]
    have bad : relAt c k v = none → settledA c vs = .tup [.tr (.ls []), int 42] := fun h => by
      have : rightV c vs = false := by
        unfold rightV
        rw [Bool.and_eq_false_iff]; right
        rw [← Bool.not_eq_true, List.all_eq_true]
        intro hh
        have := hh k (List.mem_range.2 hlt)
        unfold okAt at this
        rw [hv] at this
        simp only at this
        rw [h] at this; cases this
      unfold settledA; rw [this]; rfl
    refine zI (x := intT v) tab_ok rfl (by omega) (hve) rfl ?_
    repeat' (first|refine zS ?_|refine zR ?_|refine zE tab_ok rfl rfl ?_|refine zN ?_|(refine zG rfl rfl (fun _ => ?_) fun _ => ?_)<;>refine zE tab_ok rfl rfl ?_|(refine zC rfl (fun _ => ?_) fun _ => ?_)<;>try (rename_i h; cases h; done)|refine zB ?_|refine zK ?_|refine zZ ⟨_, rfl, ?_⟩)
    · rename_i h3 _
      have h3 := of_decide_eq_true h3
      show AV.tup _ = _
      rw [bad (relAt_neg h3)]
    rename_i h3
    have h3 := of_decide_eq_false h3
    refine zI (x := svcT s) tab_ok rfl (by omega) (hse) rfl ?_
    repeat' (first|refine zS ?_|refine zR ?_|refine zE tab_ok rfl rfl ?_|refine zN ?_|(refine zG rfl rfl (fun _ => ?_) fun _ => ?_)<;>refine zE tab_ok rfl rfl ?_|(refine zC rfl (fun _ => ?_) fun _ => ?_)<;>try (rename_i h; cases h; done)|refine zB ?_|refine zK ?_|refine zZ ⟨_, rfl, ?_⟩)
    · rename_i h4
      have h4 : decide (v ≥ ((s.rels.map rlsT).length : Int)) = true := h4
      rw [List.length_map] at h4
      have h4 := of_decide_eq_true h4
      show AV.tup _ = _
      rw [bad (by rw [relAt_pos hs' (by omega)]; exact List.getElem?_eq_none (by omega))]
    rename_i h4
    have h4 : decide (v ≥ ((s.rels.map rlsT).length : Int)) = false := h4
    rw [List.length_map] at h4
    have h4 := of_decide_eq_false h4
    obtain ⟨r, hrr⟩ : ∃ r, s.rels[v.toNat]? = some r := ⟨_, List.getElem?_eq_getElem (by omega)⟩
    have hre : (s.rels.map rlsT)[v.toNat]? = some (rlsT r) := by simp [hrr]
    obtain ⟨hs12, hsr⟩ := hr s hsm
    obtain ⟨l0, l1⟩ := hsr r (List.mem_of_getElem? hrr)
    have hrel : relAt c k v = some r := by rw [relAt_pos hs' (by omega), hrr]
    have hpl : placeAt c vs k = placeT v (2 * r.level) := by unfold placeAt; rw [hv]; simp only; rw [hrel]
    have hat := at_ok v (2 * r.level) (by omega) (by omega) (by omega) (by omega)
    refine zI (x := svcT s) tab_ok rfl (by omega) (hse) rfl ?_
    repeat' (first|refine zS ?_|refine zR ?_|refine zE tab_ok rfl rfl ?_|refine zN ?_|(refine zG rfl rfl (fun _ => ?_) fun _ => ?_)<;>refine zE tab_ok rfl rfl ?_|(refine zC rfl (fun _ => ?_) fun _ => ?_)<;>try (rename_i h; cases h; done)|refine zB ?_|refine zK ?_|refine zZ ⟨_, rfl, ?_⟩)
    refine zI (x := rlsT r) tab_ok rfl (by omega) (hre) rfl ?_
    repeat' (first|refine zS ?_|refine zR ?_|refine zE tab_ok rfl rfl ?_|refine zN ?_|(refine zG rfl rfl (fun _ => ?_) fun _ => ?_)<;>refine zE tab_ok rfl rfl ?_|(refine zC rfl (fun _ => ?_) fun _ => ?_)<;>try (rename_i h; cases h; done)|refine zB ?_|refine zK ?_|refine zZ ⟨_, rfl, ?_⟩)
    refine Sq.re (wrapz (z := 2 * r.level) rfl (by omega) (by omega)) ?_
    refine Sq.callv rfl (hat) ?_
    repeat' (first|refine zS ?_|refine zR ?_|refine zE tab_ok rfl rfl ?_|refine zN ?_|(refine zG rfl rfl (fun _ => ?_) fun _ => ?_)<;>refine zE tab_ok rfl rfl ?_|(refine zC rfl (fun _ => ?_) fun _ => ?_)<;>try (rename_i h; cases h; done)|refine zB ?_|refine zK ?_|refine zZ ⟨_, rfl, ?_⟩)
    refine Sq.append tab_ok rfl (fun y hy => by simp only [List.mem_singleton] at hy; subst hy; rfl) (by simp; omega) ?_
    repeat' (first|refine zS ?_|refine zR ?_|refine zE tab_ok rfl rfl ?_|refine zN ?_|(refine zG rfl rfl (fun _ => ?_) fun _ => ?_)<;>refine zE tab_ok rfl rfl ?_|(refine zC rfl (fun _ => ?_) fun _ => ?_)<;>try (rename_i h; cases h; done)|refine zB ?_|refine zK ?_|refine zZ ⟨_, rfl, ?_⟩)
    exact ⟨k + 1, ⟨by omega, by rw [List.range_succ, List.all_append, hp]; simp [okAt, hv, hrel]⟩, by omega, Sub.app (l := [_, _, _, _, _, _, _]) (H := []) ⟨rfl, rfl, rfl, congrArg some (congrArg (AV.own _) (by rw [List.range_succ, List.map_append, List.map_cons, List.map_nil, hpl])), rfl, rfl, congrArg some (wrapz (by omega) (by omega) (by omega)), trivial⟩ (fun κ v h => nomatch h)⟩
  · rename_i h2
    have : k = vs.length := by simp only [List.length_map, decide_eq_false_iff_not] at h2; omega
    subst this
    refine Tr.exit ?_
    repeat' (first|refine zS ?_|refine zR ?_|refine zE tab_ok rfl rfl ?_|refine zN ?_|(refine zG rfl rfl (fun _ => ?_) fun _ => ?_)<;>refine zE tab_ok rfl rfl ?_|(refine zC rfl (fun _ => ?_) fun _ => ?_)<;>try (rename_i h; cases h; done)|refine zB ?_|refine zK ?_|refine zZ ⟨_, rfl, ?_⟩)
    show AV.tup _ = _
    have : rightV c vs = true := by unfold rightV; rw [decide_eq_true hl, hp]; rfl
    unfold settledA
    rw [if_pos this]
end Go.Lg.Tryz
