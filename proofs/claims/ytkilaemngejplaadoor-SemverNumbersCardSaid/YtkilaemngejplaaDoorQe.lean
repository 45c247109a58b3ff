/- The order of versions: bytes, marks, lists of marks. -/
import Derived.Test.YtkilaemngejplaaDoorQd
set_option linter.unusedSimpArgs false
set_option linter.unusedVariables false
namespace Go.Proofs.YtkilaemngejplaaDoor
open Go.RowKit Go.Proofs.YtkilaemngejplaaDoorW.PrintWords PSem

/-- An order on what S says. -/
structure OrdOn {α : Type} (S : α → Prop) (f : α → α → Int) : Prop where
  rng : ∀ a b, f a b = -1 ∨ f a b = 0 ∨ f a b = 1
  anti : ∀ a b, S a → S b → f a b = - f b a
  zero : ∀ a b, S a → S b → f a b = 0 → a = b
  self : ∀ a, S a → f a a = 0
  trans : ∀ a b c, S a → S b → S c → f a b ≤ 0 → f b c ≤ 0 → f a c ≤ 0
theorem OrdOn.trans_lt {α : Type} {S : α → Prop} {f : α → α → Int} (o : OrdOn S f) {a b c : α} (ha : S a) (hb : S b) (hc : S c) (h1 : f a b ≤ 0) (h2 : f b c ≤ 0) (h : f a b = -1 ∨ f b c = -1) : f a c = -1 := by
  have h3 := o.trans a b c ha hb hc h1 h2
  rcases o.rng a c with h4 | h4 | h4
  · exact h4
  · exfalso
    have e := o.zero a c ha hc h4
    subst e
    have := o.anti a b ha hb
    have := o.anti b a hb ha
    rcases h with h | h <;> omega
  · omega
def lexL {α : Type} (f : α → α → Int) : List α → List α → Int
  | [], [] => 0
  | [], _ :: _ => -1
  | _ :: _, [] => 1
  | a :: x, b :: y => if f a b = 0 then lexL f x y else f a b
theorem ordL {α : Type} {S : α → Prop} {f : α → α → Int} (o : OrdOn S f) : OrdOn (fun l => ∀ x ∈ l, S x) (lexL f) := by
  refine ⟨?_, ?_, ?_, ?_, ?_⟩
  · intro a
    induction a with
    | nil => intro b; cases b <;> simp [lexL]
    | cons x a ih => intro b; cases b with
      | nil => simp [lexL]
      | cons y b => unfold lexL; split; exact ih b; exact o.rng x y
  · intro a
    induction a with
    | nil => intro b _ _; cases b <;> simp [lexL]
    | cons x a ih => intro b ha hb; cases b with
      | nil => simp [lexL]
      | cons y b =>
        have h1 := o.anti x y (ha _ List.mem_cons_self) (hb _ List.mem_cons_self)
        have := ih b (fun z hz => ha z (List.mem_cons_of_mem _ hz)) (fun z hz => hb z (List.mem_cons_of_mem _ hz))
        unfold lexL
        by_cases e : f x y = 0
        · rw [if_pos e, if_pos (by omega)]; exact this
        · rw [if_neg e, if_neg (by omega)]; exact h1
  · intro a
    induction a with
    | nil => intro b _ _ h; cases b with
      | nil => rfl
      | cons y b => simp [lexL] at h
    | cons x a ih => intro b ha hb h; cases b with
      | nil => simp [lexL] at h
      | cons y b =>
        unfold lexL at h
        by_cases e : f x y = 0
        · rw [if_pos e] at h
          rw [o.zero x y (ha _ List.mem_cons_self) (hb _ List.mem_cons_self) e, ih b (fun z hz => ha z (List.mem_cons_of_mem _ hz)) (fun z hz => hb z (List.mem_cons_of_mem _ hz)) h]
        · rw [if_neg e] at h; exact absurd h e
  · intro a
    induction a with
    | nil => intro _; rfl
    | cons x a ih =>
      intro ha
      unfold lexL; rw [if_pos (o.self x (ha _ List.mem_cons_self))]
      exact ih (fun z hz => ha z (List.mem_cons_of_mem _ hz))
  · intro a
    induction a with
    | nil => intro b c _ _ _ _ _; cases c <;> simp [lexL]
    | cons x a ih =>
      intro b c ha hb hc h1 h2
      cases b with
      | nil => simp [lexL] at h1
      | cons y b =>
        cases c with
        | nil => simp [lexL] at h2
        | cons z c =>
          have sx := ha x List.mem_cons_self
          have sy := hb y List.mem_cons_self
          have sz := hc z List.mem_cons_self
          have ta := fun z hz => ha z (List.mem_cons_of_mem _ hz)
          have tb := fun z hz => hb z (List.mem_cons_of_mem _ hz)
          have tc := fun z hz => hc z (List.mem_cons_of_mem _ hz)
          unfold lexL at h1 h2 ⊢
          by_cases e1 : f x y = 0
          · rw [if_pos e1] at h1
            have := o.zero x y sx sy e1
            subst this
            by_cases e2 : f x z = 0
            · rw [if_pos e2] at h2 ⊢; exact ih b c ta tb tc h1 h2
            · rw [if_neg e2] at h2 ⊢; exact h2
          · rw [if_neg e1] at h1
            by_cases e2 : f y z = 0
            · have := o.zero y z sy sz e2
              subst this
              rw [if_neg e1]; exact h1
            · rw [if_neg e2] at h2
              have h3 := o.trans_lt sx sy sz h1 h2 (by rcases o.rng x y with h | h | h <;> omega)
              rw [if_neg (by omega)]; omega
theorem ordI : OrdOn (fun _ => True) cmpI := by
  refine ⟨cmpI_rng, ?_, ?_, ?_, ?_⟩
  · intro a b _ _; unfold cmpI; (repeat' split) <;> omega
  · intro a b _ _ h; exact cmpI_zero.1 h
  · intro a _; exact cmpI_zero.2 rfl
  · intro a b c _ _ _; unfold cmpI; (repeat' split) <;> omega
def cmpB (a b : UInt8) : Int := cmpI (a.toNat : Int) (b.toNat : Int)
theorem ordB : OrdOn (fun _ => True) cmpB := by
  refine ⟨fun _ _ => cmpI_rng _ _, fun a b _ _ => ordI.anti _ _ trivial trivial, ?_, fun a _ => ordI.self _ trivial, fun a b c _ _ _ => ordI.trans _ _ _ trivial trivial trivial⟩
  intro a b _ _ h
  have := cmpI_zero.1 h
  rw [← UInt8.toNat_inj]; omega
/-- Bytes in their order. -/
theorem less_lex : ∀ (x y : List UInt8), (if Op.bytesLess x y = true then (-1 : Int) else if (x == y) = true then 0 else 1) = lexL cmpB x y := by
  intro x
  induction x with
  | nil => intro y; cases y <;> simp [Op.bytesLess, lexL]
  | cons a x ih =>
    intro y
    cases y with
    | nil => simp [Op.bytesLess, lexL]
    | cons b y =>
      have h := ih y
      unfold lexL Op.bytesLess
      by_cases hab : a = b
      · subst hab
        rw [if_pos (ordB.self a trivial), ← h]
        simp
      · have hne : cmpB a b ≠ 0 := fun e => hab (ordB.zero a b trivial trivial e)
        rw [if_neg hne]
        have hbeq : (a == b) = false := by simpa using hab
        simp only [hbeq, Bool.false_and, Bool.or_false, List.cons_beq_cons]
        have hcb : cmpB a b = if (a.toNat : Int) < (b.toNat : Int) then -1 else if (a.toNat : Int) > (b.toNat : Int) then 1 else 0 := rfl
        by_cases hlt : a < b
        · have : a.toNat < b.toNat := UInt8.lt_iff_toNat_lt.1 hlt
          have e : cmpB a b = -1 := by rw [hcb, if_pos (by omega)]
          rw [e]; simp [hlt]
        · have h1 : ¬ a.toNat < b.toNat := fun e => hlt (UInt8.lt_iff_toNat_lt.2 e)
          have h2 : a.toNat ≠ b.toNat := fun e => hab (UInt8.toNat_inj.1 e)
          have e : cmpB a b = 1 := by rw [hcb, if_neg (by omega), if_pos (by omega)]
          rw [e]; simp [hlt]
theorem cmpS_lex (p q : ByteArray) : cmpS p q = lexL cmpB p.data.toList q.data.toList := by
  unfold cmpS; rw [ba_toList, ba_toList]; exact less_lex _ _
theorem bytes_ext {p q : ByteArray} (h : p.data.toList = q.data.toList) : p = q := by apply ByteArray.ext; apply Array.ext'; exact h
theorem ordS : OrdOn (fun _ => True) cmpS := by
  have o := ordL ordB
  have t : ∀ p : ByteArray, ∀ x ∈ p.data.toList, True := fun _ _ _ => trivial
  refine ⟨fun a b => by rw [cmpS_lex]; exact o.rng _ _, fun a b _ _ => by rw [cmpS_lex, cmpS_lex]; exact o.anti _ _ (t a) (t b), fun a b _ _ h => ?_, fun a _ => by rw [cmpS_lex]; exact o.self _ (t a), fun a b c _ _ _ => by rw [cmpS_lex, cmpS_lex, cmpS_lex]; exact o.trans _ _ _ (t a) (t b) (t c)⟩
  rw [cmpS_lex] at h
  exact bytes_ext (o.zero _ _ (t a) (t b) h)

/-! ### numbers are told by what they are -/
theorem decV_inj : ∀ (n : Nat) (x y : List UInt8), x.length = n → x.all isDig = true → y.all isDig = true → x.length = y.length → decV 0 x = decV 0 y → x = y := by
  intro n
  induction n with
  | zero => intro x y hx _ _ hl _; rw [List.eq_nil_of_length_eq_zero hx]; rw [hx] at hl; rw [List.eq_nil_of_length_eq_zero hl.symm]
  | succ n ih =>
    intro x y hx hdx hdy hl he
    obtain ⟨x', a, rfl⟩ : ∃ x' a, x = x' ++ [a] := ⟨x.dropLast, x.getLast (by intro e; rw [e] at hx; cases hx), (List.dropLast_concat_getLast _).symm⟩
    obtain ⟨y', b, rfl⟩ : ∃ x' a, y = x' ++ [a] := ⟨y.dropLast, y.getLast (by intro e; rw [e] at hl; rw [hx] at hl; cases hl), (List.dropLast_concat_getLast _).symm⟩
    rw [List.all_append, Bool.and_eq_true] at hdx hdy
    have ha := (isDig_iff a).1 (by simpa using hdx.2)
    have hb := (isDig_iff b).1 (by simpa using hdy.2)
    rw [decV_snoc, decV_snoc] at he
    have e1 : a = b := by rw [← UInt8.toNat_inj]; omega
    have e2 := ih x' y' (by simpa using hx) hdx.1 hdy.1 (by simpa using hl) (by omega)
    rw [e1, e2]
theorem decV_ge : ∀ (l : List UInt8) (a : Nat), a * 10 ^ l.length ≤ decV a l := by
  intro l
  induction l with
  | nil => intro a; simp [decV]
  | cons b t ih =>
    intro a
    have h := ih (a * 10 + (b.toNat - 48))
    have h2 : (a * 10) * 10 ^ t.length ≤ (a * 10 + (b.toNat - 48)) * 10 ^ t.length := Nat.mul_le_mul_right _ (by omega)
    rw [List.length_cons, Nat.pow_succ, Nat.mul_comm (10 ^ t.length) 10, ← Nat.mul_assoc]
    exact Nat.le_trans h2 h
theorem num_len (x y : List UInt8) (hx : numL x = true) (hy : numL y = true) (h : decV 0 x = decV 0 y) : ¬ x.length < y.length := by
  intro hlt
  obtain ⟨hx1, hx2, hx3, hx4⟩ := numL_parts hx
  obtain ⟨hy1, hy2, hy3, hy4⟩ := numL_parts hy
  have hb := decV_lt x hx3
  cases y with
  | nil => exact hy1 rfl
  | cons b t =>
    have hxl : 1 ≤ x.length := List.length_pos_iff.2 hx1
    have ht : 1 ≤ t.length := by simp at hlt; omega
    have hbd := (isDig_iff b).1 (by simp only [List.all_cons, Bool.and_eq_true] at hy3; exact hy3.1)
    have hne : b ≠ 48 := fun e => hy4 ⟨by rw [e]; rfl, by simp; intro e2; rw [e2] at ht; simp at ht⟩
    have hb1 : 49 ≤ b.toNat := by
      have : b.toNat ≠ 48 := fun e => hne (by rw [← UInt8.toNat_inj]; exact e)
      omega
    have hge := decV_ge t (b.toNat - 48)
    have e : decV 0 (b :: t) = decV (b.toNat - 48) t := by simp [decV]
    rw [e] at h
    have h3 : 1 * 10 ^ t.length ≤ (b.toNat - 48) * 10 ^ t.length := Nat.mul_le_mul_right _ (by omega)
    have h4 : 10 ^ x.length ≤ 10 ^ t.length := Nat.pow_le_pow_right (by decide) (by simp at hlt; omega)
    omega
theorem valP_inj {p q : ByteArray} (hp : numP p = true) (hq : numP q = true) (h : valP p = valP q) : p = q := by
  have h' : decV 0 p.data.toList = decV 0 q.data.toList := by unfold valP numV at h; omega
  have h1 := num_len _ _ hp hq h'
  have h2 := num_len _ _ hq hp h'.symm
  exact bytes_ext (decV_inj _ _ _ rfl (numL_parts hp).2.2.1 (numL_parts hq).2.2.1 (by omega) h')
theorem ordM : OrdOn (fun _ => True) cmpM := by
  refine ⟨?_, ?_, ?_, ?_, ?_⟩
  · intro a b; unfold cmpM; (repeat' split) <;> first | exact cmpI_rng _ _ | exact ordS.rng _ _ | simp
  · intro a b _ _
    unfold cmpM
    cases ha : numP a <;> cases hb : numP b <;> simp
    · exact ordS.anti a b trivial trivial
    · exact ordI.anti _ _ trivial trivial
  · intro a b _ _ h
    unfold cmpM at h
    cases ha : numP a <;> cases hb : numP b <;> simp [ha, hb] at h
    · exact ordS.zero a b trivial trivial h
    · exact valP_inj ha hb (cmpI_zero.1 h)
  · intro a _
    unfold cmpM
    cases ha : numP a <;> simp
    · exact ordS.self a trivial
    · exact ordI.self _ trivial
  · intro a b c _ _ _ h1 h2
    unfold cmpM at h1 h2 ⊢
    cases ha : numP a <;> cases hb : numP b <;> cases hc : numP c <;> simp [ha, hb, hc] at h1 h2 ⊢
    · exact ordS.trans a b c trivial trivial trivial h1 h2
    · exact ordI.trans _ _ _ trivial trivial trivial h1 h2
end Go.Proofs.YtkilaemngejplaaDoor
