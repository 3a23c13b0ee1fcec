/- IsWord answers as the reference's IsWord does, for all lists and numbers, and leaves its list as it was. No conditions beyond the row's own. -/
import Derived.Test.YtekadhniinpdfaaMFnExactIsWordx3
import Derived.Test.YtekadhniinpdfaaBit
import Derived.Test.YtekadhniinpdfaaPoly
set_option linter.unusedVariables false
set_option linter.unusedSimpArgs false
namespace Go.Proofs.Ytekadhniinpdfaa.Pure
open Go.RowKit Go.Proofs.Ytekadhniinpdfaa Go.Proofs.Ytekadhniinpdfaa.MFnExactIsWord Go.Proofs.YtekadhniinpdfaaW.PrintWords Go.Proofs.YtekadhniinpdfaaW.PrintLast Go.Proofs.Ytekadhniinpdfaa.Bit

theorem impl_within_eq (a b c : Int) : impl_within.f a b c = some (decide (b ≤ a ∧ a ≤ c)) := by
  unfold impl_within.f
  by_cases h : a ≥ b
  · rw [if_pos h]; congr 1; simp [show b ≤ a from h]
  · rw [if_neg h]; congr 1; simp; omega

/-- Is a number an element? -/
def isB (a : Int) : Bool := decide (0 ≤ a ∧ a ≤ 255)
theorem isB_nat {a : Int} (h : isB a = true) : ∃ n : Nat, a = (n : Int) ∧ n < 256 := by
  simp only [isB, decide_eq_true_eq] at h
  exact ⟨a.toNat, by omega, by omega⟩
theorem isB_cast {n : Nat} (h : n < 256) : isB (n : Int) = true := by simp only [isB, decide_eq_true_eq]; omega

theorem impl_isGf_eq (a : Int) : impl_isGf.f a = some (isB a) := by
  unfold impl_isGf.f; rw [impl_within_eq]; rfl

theorem rd_nat (l : List Int) (i : Nat) (h : i < l.length) : rd l (i : Int) = l[i] := by
  unfold rd
  simp [List.getD_eq_getElem?_getD, List.getElem?_eq_getElem h]
theorem wrap_succ (i : Nat) (h : i < 9223372036854775807) : wrap64 ((i : Int) + 1) = ((i + 1 : Nat) : Int) := by rw [wrap_id (by omega) (by omega)]; omega

theorem laws_toIntS_l0 (l : List Int) (hl : l.length ≤ 1048576) : ∀ d i : Nat, i + d = l.length → Ev (fun k => laws_toIntS.l0 k l (l.take i ++ List.replicate d 0) (i : Int)) l := by
  intro d
  induction d with
  | zero =>
    intro i hi
    obtain rfl : i = l.length := by omega
    exact Ev.step (f := fun _ => some l) (fun k => by simp only [laws_toIntS.l0]; rw [if_neg (by omega)]; simp) (Ev.now _)
  | succ d ih =>
    intro i hi
    have hlt : i < l.length := by omega
    refine Ev.step (f := fun k => laws_toIntS.l0 k l (l.take (i + 1) ++ List.replicate d 0) ((i + 1 : Nat) : Int)) (fun k => ?_) (ih (i + 1) (by omega))
    have e : ((l.take i ++ List.replicate (d + 1) 0).set i l[i]) = l.take (i + 1) ++ List.replicate d 0 := by
      rw [List.set_append_right _ _ (by simp; omega)]
      simp only [List.length_take, Nat.min_eq_left (Nat.le_of_lt hlt), Nat.sub_self, List.replicate_succ, List.set_cons_zero]
      rw [List.take_succ_eq_append_getElem hlt, List.append_assoc]; rfl
    have z : (i : Int) < ((l.take i ++ List.replicate (d + 1) (0 : Int)).length : Int) := by simp only [List.length_append, List.length_take, List.length_replicate]; omega
    simp only [laws_toIntS.l0, rd_nat l i hlt, wrap_succ i (by omega), Int.toNat_natCast]
    rw [if_pos (by omega), if_pos (by omega), if_pos z, e]
theorem laws_toIntS_ev (l : List Int) (hl : l.length ≤ 1048576) : Ev (fun k => laws_toIntS.f k l) l := by
  unfold laws_toIntS.f
  have z1 : (0 : Int) ≤ (l.length : Int) := by omega
  have z2 : (l.length : Int).toNat ≤ 35184372088832 := by omega
  simp only [if_pos z1, if_pos z2]
  have := laws_toIntS_l0 l hl l.length 0 (by omega)
  simpa using this

theorem laws_eqIntS_l0 (l m : List Int) (hlm : l.length = m.length) (hl : l.length ≤ 140737488351232) : ∀ d i : Nat, i + d = l.length → Ev (fun k => laws_eqIntS.l0 k l m (i : Int)) (decide (l.drop i = m.drop i)) := by
  intro d
  induction d with
  | zero =>
    intro i hi
    obtain rfl : i = l.length := by omega
    have e : decide (l.drop l.length = m.drop l.length) = true := by
      have e2 : m.drop l.length = [] := by rw [hlm, List.drop_length]
      rw [e2, List.drop_length]; rfl
    rw [e]
    exact Ev.step (f := fun _ => some true) (fun k => by simp only [laws_eqIntS.l0]; rw [if_neg (by omega)]) (Ev.now _)
  | succ d ih =>
    intro i hi
    have hlt : i < l.length := by omega
    have hlt2 : i < m.length := by omega
    rw [List.drop_eq_getElem_cons hlt, List.drop_eq_getElem_cons hlt2]
    by_cases e : l[i] = m[i]
    · have : decide (l[i] :: l.drop (i + 1) = m[i] :: m.drop (i + 1)) = decide (l.drop (i + 1) = m.drop (i + 1)) := by simp only [List.cons.injEq, e, true_and]
      rw [this]
      refine Ev.step (f := fun k => laws_eqIntS.l0 k l m ((i + 1 : Nat) : Int)) (fun k => ?_) (ih (i + 1) (by omega))
      simp only [laws_eqIntS.l0, rd_nat l i hlt, rd_nat m i hlt2, wrap_succ i (by omega)]
      rw [if_pos (by omega), if_pos (by omega), if_pos (by omega), if_pos e]
    · have : decide (l[i] :: l.drop (i + 1) = m[i] :: m.drop (i + 1)) = false := by simp only [List.cons.injEq, e, false_and, decide_false]
      rw [this]
      refine Ev.step (f := fun k => some false) (fun k => ?_) (Ev.now _)
      simp only [laws_eqIntS.l0, rd_nat l i hlt, rd_nat m i hlt2, wrap_succ i (by omega)]
      rw [if_pos (by omega), if_pos (by omega), if_pos (by omega), if_neg e]
theorem laws_eqIntS_ev (l m : List Int) (hl : l.length ≤ 140737488351232) : Ev (fun k => laws_eqIntS.f k l m) (decide (l = m)) := by
  unfold laws_eqIntS.f
  by_cases h : l.length = m.length
  · simp only [if_pos (show (l.length : Int) = (m.length : Int) by omega)]
    exact laws_eqIntS_l0 l m h hl l.length 0 (by omega)
  · simp only [if_neg (show ¬ (l.length : Int) = (m.length : Int) by omega)]
    have : decide (l = m) = false := by simp only [decide_eq_false_iff_not]; rintro rfl; exact h rfl
    rw [this]
    exact Ev.now _

theorem spec_l1In_eq (a b c : Int) : spec_l1In.f a b c = some (decide (b ≤ a ∧ a ≤ c)) := by
  unfold spec_l1In.f
  by_cases h : a ≥ b
  · rw [if_pos h]; congr 1; simp [show b ≤ a from h]
  · rw [if_neg h]; congr 1; simp; omega

theorem spec_l1Gf_eq (a : Int) : spec_l1Gf.f a = some (isB a) := by
  unfold spec_l1Gf.f; rw [spec_l1In_eq]; rfl

theorem rd_get (l : List Int) (i : Nat) (h : i < l.length) : rd l (i : Int) = l[i] := by
  unfold rd
  simp [List.getD_eq_getElem?_getD, List.getElem?_eq_getElem h]
theorem wrap_up (i : Nat) (h : i < 9223372036854775807) : wrap64 ((i : Int) + 1) = ((i + 1 : Nat) : Int) := by rw [wrap_id (by omega) (by omega)]; omega
theorem wrap_down (a : Nat) (h : a ≤ 9223372036854775807) : wrap64 ((a : Int) - 1) = (a : Int) - 1 := wrap_id (by omega) (by omega)
theorem allB_up {l : List Int} (h : l.all isB = true) : ∃ m : List Nat, l = Poly.up m ∧ Poly.AllB m := by
  refine Poly.up_of fun x hx => ?_
  have := List.all_eq_true.1 h x hx
  simpa [isB] using this
theorem up_allB {m : List Nat} (h : Poly.AllB m) : (Poly.up m).all isB = true := by
  rw [List.all_eq_true]
  intro x hx
  have := Poly.up_bytes h x hx
  simp only [isB, decide_eq_true_eq]; omega

theorem spec_l1All_l0 (l : List Int) (hl : l.length ≤ 140737488351232) : ∀ d i : Nat, i + d = l.length → Ev (fun k => spec_l1All.l0 k l (l.length : Int) (i : Int)) ((l.drop i).all isB) := by
  intro d
  induction d with
  | zero =>
    intro i hi
    obtain rfl : i = l.length := by omega
    rw [List.drop_length]
    exact Ev.step (f := fun _ => some true) (fun k => by simp only [spec_l1All.l0]; rw [if_neg (by omega)]) (Ev.now _)
  | succ d ih =>
    intro i hi
    have hlt : i < l.length := by omega
    rw [List.drop_eq_getElem_cons hlt, List.all_cons]
    cases hb : isB l[i] with
    | true =>
      refine Ev.step (f := fun k => spec_l1All.l0 k l (l.length : Int) ((i + 1 : Nat) : Int)) (fun k => ?_) (ih (i + 1) (by omega))
      simp only [spec_l1All.l0, rd_get l i hlt, wrap_up i (by omega), spec_l1Gf_eq, hb, Option.bind_some, if_true]
      rw [if_pos (by omega), if_pos (by omega), if_pos (by omega)]
    | false =>
      refine Ev.step (f := fun _ => some false) (fun k => ?_) (Ev.now _)
      simp only [spec_l1All.l0, rd_get l i hlt, wrap_up i (by omega), spec_l1Gf_eq, hb, Option.bind_some]
      rw [if_pos (by omega), if_pos (by omega), if_pos (by omega)]; rfl
theorem spec_l1All_ev (l : List Int) (hl : l.length ≤ 140737488351232) : Ev (fun k => spec_l1All.f k l) (l.all isB) := spec_l1All_l0 l hl l.length 0 (by omega)

/-- What GeneratorOf answers. -/
def isW (a : Int) : Bool := decide (1 ≤ a ∧ a ≤ 3)
theorem isW_nat {a : Int} (h : isW a = true) : ∃ n : Nat, a = (n : Int) ∧ 1 ≤ n ∧ n ≤ 3 := by
  simp only [isW, decide_eq_true_eq] at h
  exact ⟨a.toNat, by omega, by omega, by omega⟩
def genV (a : Int) : List Int × Bool := if isW a then (Poly.up (Poly.gen a.toNat), true) else ([], false)

theorem spec_l4Wrong_eq (a : Int) : spec_l4Wrong.f a = some (isW a) := by
  unfold spec_l4Wrong.f; rw [spec_l1In_eq]; rfl

/-- Is a list a polynomial? -/
def isP (l : List Int) : Bool := decide (l.length ≤ 40) && (l.all isB && (decide (l.length = 0) || (rd l ((l.length : Int) - 1) != 0)))
theorem isP_up {l : List Int} (h : isP l = true) : ∃ m : List Nat, l = Poly.up m ∧ Poly.AllB m ∧ m.length ≤ 40 ∧ (m = [] ∨ m.getD (m.length - 1) 0 ≠ 0) := by
  unfold isP at h
  simp only [Bool.and_eq_true, Bool.or_eq_true, decide_eq_true_eq, bne_iff_ne] at h
  obtain ⟨h1, h2, h3⟩ := h
  obtain ⟨m, rfl, hm⟩ := allB_up h2
  rw [Poly.up_length] at h1 h3
  refine ⟨m, rfl, hm, h1, ?_⟩
  rcases h3 with h3 | h3
  · exact .inl (List.length_eq_zero_iff.1 h3)
  · by_cases h0 : m.length = 0
    · exact .inl (List.length_eq_zero_iff.1 h0)
    · refine .inr fun e => h3 ?_
      have : (m.length : Int) - 1 = ((m.length - 1 : Nat) : Int) := by omega
      rw [this, Poly.rd_up, e]; rfl
theorem up_isP {m : List Nat} (hm : Poly.AllB m) (hl : m.length ≤ 40) (h : m = [] ∨ m.getD (m.length - 1) 0 ≠ 0) : isP (Poly.up m) = true := by
  unfold isP
  simp only [Bool.and_eq_true, Bool.or_eq_true, decide_eq_true_eq, bne_iff_ne, Poly.up_length]
  refine ⟨hl, up_allB hm, ?_⟩
  by_cases h0 : m.length = 0
  · exact .inl h0
  · refine .inr fun e => ?_
    have e1 : (m.length : Int) - 1 = ((m.length - 1 : Nat) : Int) := by omega
    rw [e1, Poly.rd_up] at e
    rcases h with h | h
    · rw [h] at h0; exact h0 rfl
    · exact h (by omega)

/-- Is a list a word? -/
def isLg (l : List Int) (w : Int) : Bool := isW w && (decide (2 * w < (l.length : Int) ∧ l.length ≤ 24) && l.all isB)
theorem isLg_up {l : List Int} {w : Int} (h : isLg l w = true) : ∃ (m : List Nat) (n : Nat), l = Poly.up m ∧ w = (n : Int) ∧ Poly.AllB m ∧ 1 ≤ n ∧ n ≤ 3 ∧ 2 * n < m.length ∧ m.length ≤ 24 := by
  unfold isLg at h
  simp only [Bool.and_eq_true, decide_eq_true_eq] at h
  obtain ⟨h1, ⟨h2, h3⟩, h4⟩ := h
  obtain ⟨n, rfl, hn1, hn3⟩ := isW_nat h1
  obtain ⟨m, rfl, hm⟩ := allB_up h4
  rw [Poly.up_length] at h2 h3
  exact ⟨m, n, rfl, rfl, hm, hn1, hn3, by omega, h3⟩

theorem spec_l4Word_ev (l : List Int) (w : Int) (hl : l.length ≤ 140737488351232) : Ev (fun k => spec_l4Word.f k l w) (isLg l w) := by
  unfold spec_l4Word.f isLg
  simp only [spec_l4Wrong_eq, spec_l1In_eq, Option.bind_some]
  cases h1 : isW w
  · exact Ev.now _
  · obtain ⟨n, rfl, h2, h3⟩ := isW_nat h1
    have e : wrap64 (wrap64 (2 * (n : Int)) + 1) = 2 * (n : Int) + 1 := by
      rw [wrap_id (n := 2 * (n : Int)) (by omega) (by omega), wrap_id (by omega) (by omega)]
    have e2 : decide (wrap64 (wrap64 (2 * (n : Int)) + 1) ≤ (l.length : Int) ∧ (l.length : Int) ≤ 24) = decide (2 * (n : Int) < (l.length : Int) ∧ l.length ≤ 24) := by
      rw [e]; exact decide_eq_decide.2 (by omega)
    simp only [if_true, e2, Bool.true_and]
    cases decide (2 * (n : Int) < (l.length : Int) ∧ l.length ≤ 24)
    · exact Ev.now _
    · simp only [if_true, Bool.true_and]
      exact Ev.bind (spec_l1All_ev l hl) (Ev.now _)

theorem spec_l1Mul_l0 : ∀ (n a b o : Nat), a < 256 → o < 256 → b < 2 ^ n → b < 2 ^ 63 → Ev (fun k => spec_l1Mul.l0 k (a : Int) (b : Int) (o : Int)) ((Gf.gmA n a b o : Nat) : Int) := by
  have stop : ∀ a o : Nat, Ev (fun k => spec_l1Mul.l0 k (a : Int) ((0 : Nat) : Int) (o : Int)) ((o : Nat) : Int) := fun a o =>
    Ev.step (f := fun _ => some ((o : Nat) : Int)) (fun k => by simp only [spec_l1Mul.l0]; rw [if_neg (by omega)]) (Ev.now _)
  intro n
  induction n with
  | zero =>
    intro a b o ha ho hb _
    obtain rfl : b = 0 := by simpa using hb
    exact stop a o
  | succ n ih =>
    intro a b o ha ho hb hb63
    by_cases h0 : b = 0
    · subst h0
      rw [Gf.gmA_zero]
      exact stop a o
    · have e1 : wrap64 ((a : Int) * 2) = ((a * 2 : Nat) : Int) := by rw [wrap_id (by omega) (by omega)]; omega
      have e2 : Go.bits .xor .i64 ((a * 2 : Nat) : Int) 285 = (((a * 2) ^^^ 285 : Nat) : Int) := xor_nat (a := a * 2) (b := 285) (by omega) (by decide)
      have e3 : Go.bits .xor .i64 (o : Int) (a : Int) = ((o ^^^ a : Nat) : Int) := xor_nat (by omega) (by omega)
      have e4 := and_one (a := b) hb63
      refine Ev.step (f := fun k => spec_l1Mul.l0 k ((Gf.xt a : Nat) : Int) ((b / 2 : Nat) : Int) (((if b % 2 = 1 then o ^^^ a else o) : Nat) : Int)) (fun k => ?_) (ih _ _ _ (Gf.xt_lt a ha) ?_ (by rw [Nat.pow_succ] at hb; omega) (by omega))
      · simp only [spec_l1Mul.l0, e1, e2, e3, e4, half_nat, Gf.xt]
        rw [if_pos (show (b : Int) > 0 by omega)]
        by_cases h1 : b % 2 = 1 <;> by_cases h2 : 255 < a * 2
        · rw [if_pos (show ((b % 2 : Nat) : Int) = 1 by omega), if_pos h1, if_pos (by omega), if_pos h2]
        · rw [if_pos (show ((b % 2 : Nat) : Int) = 1 by omega), if_pos h1, if_neg (by omega), if_neg h2]
        · rw [if_neg (show ¬ ((b % 2 : Nat) : Int) = 1 by omega), if_neg h1, if_pos (by omega), if_pos h2]
        · rw [if_neg (show ¬ ((b % 2 : Nat) : Int) = 1 by omega), if_neg h1, if_neg (by omega), if_neg h2]
      · split
        · exact Gf.xor_byte ho ha
        · exact ho
theorem spec_l1Mul_ev (a b : Nat) (ha : a < 256) (hb : b < 256) : Ev (fun k => spec_l1Mul.f k (a : Int) (b : Int)) ((Gf.gm a b : Nat) : Int) :=
  spec_l1Mul_l0 8 a b 0 ha (by decide) hb (by omega)

theorem xor_up {a b : Nat} (ha : a < 256) (hb : b < 256) : Go.bits .xor .i64 (a : Int) (b : Int) = ((a ^^^ b : Nat) : Int) := xor_nat (by omega) (by omega)
theorem wrap_nat (n : Nat) (h : n ≤ 9223372036854775807) : wrap64 (n : Int) = (n : Int) := wrap_id (by omega) (by omega)
theorem wrap_add (a b : Nat) (h : a + b ≤ 9223372036854775807) : wrap64 ((a : Int) + (b : Int)) = ((a + b : Nat) : Int) := by rw [wrap_id (by omega) (by omega)]; omega
theorem wrap_pred (a : Nat) (h : a ≤ 9223372036854775807) (h0 : 0 < a) : wrap64 ((a : Int) - 1) = ((a - 1 : Nat) : Int) := by rw [wrap_id (by omega) (by omega)]; omega

theorem spec_l1Eval_l0 (p : List Nat) (x : Nat) (hp : Poly.AllB p) (hx : x < 256) (hl : p.length ≤ 100000) : ∀ i : Nat, i ≤ p.length → Ev (fun k => spec_l1Eval.l0 k (Poly.up p) (x : Int) ((Poly.gev (p.drop i) x : Nat) : Int) ((i : Int) - 1)) ((Poly.gev p x : Nat) : Int) := by
  intro i
  induction i with
  | zero =>
    intro _
    exact Ev.step (f := fun _ => some ((Poly.gev p x : Nat) : Int)) (fun k => by simp only [spec_l1Eval.l0]; rw [if_neg (by omega)]; rfl) (Ev.now _)
  | succ i ih =>
    intro hi
    have hlt : i < p.length := by omega
    have e1 : ((i + 1 : Nat) : Int) - 1 = (i : Int) := by omega
    have hd : p.drop i = p.getD i 0 :: p.drop (i + 1) := by
      rw [List.drop_eq_getElem_cons hlt]
      simp [List.getD_eq_getElem?_getD, List.getElem?_eq_getElem hlt]
    have hv := Poly.gev_lt (hp.drop (i + 1)) x
    have hg := hp.get i
    have ih' := ih (by omega)
    rw [hd] at ih'
    rw [e1]
    have ex := xor_up (Gf.gm_lt x hv) hg
    refine Ev.step (f := fun k => (spec_l1Mul.f k ((Poly.gev (p.drop (i + 1)) x : Nat) : Int) (x : Int)).bind fun t => spec_l1Eval.l0 k (Poly.up p) (x : Int) (Go.bits .xor .i64 t ((p.getD i 0 : Nat) : Int)) ((i : Int) - 1)) (fun k => ?_) ?_
    · simp only [spec_l1Eval.l0, Poly.rd_up, Poly.up_length, wrap_down i (by omega)]
      have z1 : (0 : Int) ≤ (i : Int) := by omega
      have z2 : (i : Int) < (p.length : Int) := by omega
      rw [if_pos (by omega)]
      simp only [if_pos z1, if_pos z2]
    · refine Ev.bind (spec_l1Mul_ev _ _ hv hx) ?_
      rw [ex]
      exact ih'
theorem spec_l1Eval_ev (p : List Nat) (x : Nat) (hp : Poly.AllB p) (hx : x < 256) (hl : p.length ≤ 100000) : Ev (fun k => spec_l1Eval.f k (Poly.up p) (x : Int)) ((Poly.gev p x : Nat) : Int) := by
  have := spec_l1Eval_l0 p x hp hx hl p.length (Nat.le_refl _)
  rw [List.drop_length] at this
  unfold spec_l1Eval.f
  rw [Poly.up_length, wrap_down p.length (by omega)]
  exact this

theorem spec_l1Pow_l0 : ∀ (f a n o : Nat), a < 256 → o < 256 → n < 2 ^ f → n < 2 ^ 63 → Ev (fun k => spec_l1Pow.l0 k (a : Int) (n : Int) (o : Int)) ((Gf.pwA f a n o : Nat) : Int) := by
  have stop : ∀ a o : Nat, Ev (fun k => spec_l1Pow.l0 k (a : Int) ((0 : Nat) : Int) (o : Int)) ((o : Nat) : Int) := fun a o =>
    Ev.step (f := fun _ => some ((o : Nat) : Int)) (fun k => by simp only [spec_l1Pow.l0]; rw [if_neg (by omega)]) (Ev.now _)
  have z : ∀ f a o, Gf.pwA f a 0 o = o := by
    intro f
    induction f with
    | zero => intro a o; rfl
    | succ f ih => intro a o; exact ih _ _
  intro f
  induction f with
  | zero =>
    intro a n o ha ho hn _
    obtain rfl : n = 0 := by simpa using hn
    exact stop a o
  | succ f ih =>
    intro a n o ha ho hn hn63
    by_cases h0 : n = 0
    · subst h0
      rw [z]
      exact stop a o
    · have e4 := and_one (a := n) hn63
      have hsq := Gf.gm_lt a ha
      by_cases h1 : n % 2 = 1
      · refine Ev.step (f := fun k => (spec_l1Mul.f k (o : Int) (a : Int)).bind fun t => (spec_l1Mul.f k (a : Int) (a : Int)).bind fun u => spec_l1Pow.l0 k u ((n / 2 : Nat) : Int) t) (fun k => ?_) ?_
        · simp only [spec_l1Pow.l0, e4, half_nat]
          rw [if_pos (show (n : Int) > 0 by omega), if_pos (show ((n % 2 : Nat) : Int) = 1 by omega)]
        · have := ih (Gf.gm a a) (n / 2) (Gf.gm o a) hsq (Gf.gm_lt a ho) (by rw [Nat.pow_succ] at hn; omega) (by omega)
          show Ev _ ((Gf.pwA f (Gf.gm a a) (n / 2) (if n % 2 = 1 then Gf.gm o a else o) : Nat) : Int)
          rw [if_pos h1]
          exact Ev.bind (f := fun k t => (spec_l1Mul.f k (a : Int) (a : Int)).bind fun u => spec_l1Pow.l0 k u ((n / 2 : Nat) : Int) t) (spec_l1Mul_ev o a ho ha) (Ev.bind (f := fun k u => spec_l1Pow.l0 k u ((n / 2 : Nat) : Int) ((Gf.gm o a : Nat) : Int)) (spec_l1Mul_ev a a ha ha) this)
      · refine Ev.step (f := fun k => (spec_l1Mul.f k (a : Int) (a : Int)).bind fun u => spec_l1Pow.l0 k u ((n / 2 : Nat) : Int) (o : Int)) (fun k => ?_) ?_
        · simp only [spec_l1Pow.l0, e4, half_nat]
          rw [if_pos (show (n : Int) > 0 by omega), if_neg (show ¬ ((n % 2 : Nat) : Int) = 1 by omega)]
        · have := ih (Gf.gm a a) (n / 2) o hsq ho (by rw [Nat.pow_succ] at hn; omega) (by omega)
          show Ev _ ((Gf.pwA f (Gf.gm a a) (n / 2) (if n % 2 = 1 then Gf.gm o a else o) : Nat) : Int)
          rw [if_neg h1]
          exact Ev.bind (f := fun k u => spec_l1Pow.l0 k u ((n / 2 : Nat) : Int) (o : Int)) (spec_l1Mul_ev a a ha ha) this
theorem spec_l1Pow_ev (a n : Nat) (ha : a < 256) (hn : n < 2 ^ 62) : Ev (fun k => spec_l1Pow.f k (a : Int) (n : Int)) ((Gf.pw a n : Nat) : Int) := by
  have := spec_l1Pow_l0 62 a n 1 ha (by decide) hn (by omega)
  rw [Gf.pwA_eq 62 a n 1 ha (by decide) hn, Gf.one_gm _ (Gf.pw_lt n)] at this
  exact this

/-- The first n values at powers of 2. -/
def synL (m : List Nat) (n : Nat) : List Nat := (List.range n).map fun k => Poly.gev m (Gf.pw 2 k)
theorem synL_length (m : List Nat) (n : Nat) : (synL m n).length = n := by simp [synL]
theorem synL_succ (m : List Nat) (n : Nat) : synL m (n + 1) = synL m n ++ [Poly.gev m (Gf.pw 2 n)] := by simp [synL, List.range_succ]
theorem synL_bytes {m : List Nat} (hm : Poly.AllB m) (n : Nat) : Poly.AllB (synL m n) := fun x hx => by
  obtain ⟨k, _, rfl⟩ := List.mem_map.1 hx
  exact Poly.gev_lt hm _

theorem spec_l4Syndromes_l0 (m : List Nat) (w : Nat) (hm : Poly.AllB m) (hl : m.length ≤ 1000) (hw : w ≤ 3) : ∀ d n : Nat, n + d = 2 * w → Ev (fun k => spec_l4Syndromes.l0 k (Poly.up m) (w : Int) (Poly.up (synL m n)) (n : Int)) (Poly.up (synL m (2 * w))) := by
  have e2 : wrap64 (2 * (w : Int)) = ((2 * w : Nat) : Int) := by rw [wrap_id (by omega) (by omega)]; omega
  intro d
  induction d with
  | zero =>
    intro n hn
    obtain rfl : n = 2 * w := by omega
    exact Ev.step (f := fun _ => some (Poly.up (synL m (2 * w)))) (fun k => by simp only [spec_l4Syndromes.l0, e2]; rw [if_neg (by omega)]) (Ev.now _)
  | succ d ih =>
    intro n hn
    have z : (Poly.up (synL m n)).length < 17592186044416 := by rw [Poly.up_length, synL_length]; omega
    refine Ev.step (fun k => spec_l4Syndromes.l0.eq_2 _ _ _ _ k) ?_
    have z1 : (n : Int) < ((2 * w : Nat) : Int) := by omega
    simp only [e2, if_pos z1, if_pos z, wrap_up n (by omega)]
    refine Ev.bind (spec_l1Pow_ev 2 n (by decide) (by omega)) ?_
    refine Ev.bind (spec_l1Eval_ev m (Gf.pw 2 n) hm (Gf.pw_lt n) (by omega)) ?_
    rw [Poly.up_snoc, ← synL_succ]
    exact ih (n + 1) (by omega)
theorem spec_l4Syndromes_ev (m : List Nat) (w : Nat) (hm : Poly.AllB m) (hl : m.length ≤ 1000) (hw : w ≤ 3) : Ev (fun k => spec_l4Syndromes.f k (Poly.up m) (w : Int)) (Poly.up (synL m (2 * w))) := spec_l4Syndromes_l0 m w hm hl hw (2 * w) 0 (by omega)

/-- Are all 0? -/
def zeroL (l : List Nat) : Bool := l.all (· == 0)

theorem spec_l4Is_l0 (l : List Nat) (hl : l.length ≤ 1000) : ∀ d i : Nat, i + d = l.length → Ev (fun k => spec_l4Is.l0 k (Poly.up l) (l.length : Int) (i : Int)) (zeroL (l.drop i)) := by
  intro d
  induction d with
  | zero =>
    intro i hi
    obtain rfl : i = l.length := by omega
    rw [List.drop_length]
    exact Ev.step (f := fun _ => some true) (fun k => by simp only [spec_l4Is.l0]; rw [if_neg (by omega)]) (Ev.now _)
  | succ d ih =>
    intro i hi
    have hlt : i < l.length := by omega
    have hd : l.drop i = l.getD i 0 :: l.drop (i + 1) := by
      rw [List.drop_eq_getElem_cons hlt]
      simp [List.getD_eq_getElem?_getD, List.getElem?_eq_getElem hlt]
    have z1 : (i : Int) < (l.length : Int) := by omega
    have z2 : (0 : Int) ≤ (i : Int) := by omega
    refine Ev.step (fun k => spec_l4Is.l0.eq_2 _ _ _ k) ?_
    simp only [Poly.rd_up, Poly.up_length, if_pos z1, if_pos z2, wrap_up i (by omega)]
    rw [hd]
    show Ev _ ((l.getD i 0 == 0) && zeroL (l.drop (i + 1)))
    by_cases h0 : l.getD i 0 = 0
    · have z3 : ((l.getD i 0 : Nat) : Int) = 0 := by omega
      simp only [if_pos z3, h0, beq_self_eq_true, Bool.true_and]
      exact ih (i + 1) (by omega)
    · have z3 : ¬ ((l.getD i 0 : Nat) : Int) = 0 := by omega
      simp only [if_neg z3, beq_eq_false_iff_ne.2 h0, Bool.false_and]
      exact Ev.now _
theorem spec_l4Is_ev (m : List Nat) (w : Nat) (hm : Poly.AllB m) (hl : m.length ≤ 1000) (hw : w ≤ 3) : Ev (fun k => spec_l4Is.f k (Poly.up m) (w : Int)) (zeroL (synL m (2 * w))) := by
  unfold spec_l4Is.f
  refine Ev.bind (spec_l4Syndromes_ev m w hm hl hw) ?_
  rw [Poly.up_length]
  exact spec_l4Is_l0 (synL m (2 * w)) (by rw [synL_length]; omega) (synL m (2 * w)).length 0 (by omega)

/-- What EvalGf answers. -/
def evalV (l : List Int) (a : Int) : Int × Bool := if isP l && isB a then (((Poly.gev (l.map Int.toNat) a.toNat : Nat) : Int), true) else (0, false)
theorem toNat_up (m : List Nat) : (Poly.up m).map Int.toNat = m := by
  unfold Poly.up
  rw [List.map_map]
  conv => rhs; rw [← List.map_id m]
  exact List.map_congr_left fun x _ => by simp

/-- What IsWord answers. -/
def wordV (l : List Int) (w : Int) : Bool × Bool := if isLg l w then (zeroL (synL (l.map Int.toNat) (2 * w.toNat)), true) else (false, false)

theorem spec_IsWord_ev (l : List Int) (w : Int) (hl : l.length ≤ 140737488351232) : Ev (fun k => spec_IsWord.f k l w) (wordV l w) := by
  unfold spec_IsWord.f wordV
  refine Ev.bind (spec_l4Word_ev l w hl) ?_
  cases h : isLg l w
  · exact Ev.now _
  · obtain ⟨m, n, rfl, rfl, hm, h1, h3, h4, h5⟩ := isLg_up h
    simp only [if_true, toNat_up, Int.toNat_natCast]
    exact Ev.bind (spec_l4Is_ev m n hm (by omega) h3) (Ev.now _)

theorem impl_areGf_eq (l : List Int) : impl_areGf.f l = some (l.all isB) := by
  unfold impl_areGf.f
  have e : impl_areGf.bad = fun n => !isB n := by
    funext n
    simp only [impl_areGf.bad, isB]
  rw [e, List.all_eq_not_any_not]

theorem impl_isWrong_eq (a : Int) : impl_isWrong.f a = some (isW a) := by
  unfold impl_isWrong.f; rw [impl_within_eq]; rfl

theorem impl_isLong_eq (l : List Int) (w : Int) : impl_isLong.f l w = some (isLg l w) := by
  unfold impl_isLong.f isLg
  simp only [impl_isWrong_eq, impl_areGf_eq, Option.bind_some]
  cases h1 : isW w
  · rfl
  · obtain ⟨n, rfl, h2, h3⟩ := isW_nat h1
    have e : wrap64 (2 * (n : Int)) = 2 * (n : Int) := wrap_id (by omega) (by omega)
    rw [e, if_pos rfl]
    by_cases h4 : 2 * (n : Int) < (l.length : Int)
    · rw [if_pos (show (l.length : Int) > 2 * (n : Int) from h4)]
      by_cases h5 : l.length ≤ 24
      · rw [if_pos (show (l.length : Int) ≤ 24 by omega), decide_eq_true (⟨h4, h5⟩ : 2 * (n : Int) < (l.length : Int) ∧ l.length ≤ 24)]; rfl
      · rw [if_neg (show ¬ (l.length : Int) ≤ 24 by omega), decide_eq_false (fun h : 2 * (n : Int) < (l.length : Int) ∧ l.length ≤ 24 => h5 h.2)]; rfl
    · rw [if_neg (show ¬ (l.length : Int) > 2 * (n : Int) from h4), decide_eq_false (fun h : 2 * (n : Int) < (l.length : Int) ∧ l.length ≤ 24 => h4 h.1)]; rfl

theorem impl_mul_l0 : ∀ (n a b o : Nat), a < 256 → o < 256 → b < 2 ^ n → b < 2 ^ 63 → Ev (fun k => impl_mul.l0 k (a : Int) (b : Int) (o : Int)) ((Gf.gmA n a b o : Nat) : Int) := by
  have stop : ∀ a o : Nat, Ev (fun k => impl_mul.l0 k (a : Int) ((0 : Nat) : Int) (o : Int)) ((o : Nat) : Int) := fun a o =>
    Ev.step (f := fun _ => some ((o : Nat) : Int)) (fun k => by simp only [impl_mul.l0]; rw [if_neg (by omega)]) (Ev.now _)
  intro n
  induction n with
  | zero =>
    intro a b o ha ho hb _
    obtain rfl : b = 0 := by simpa using hb
    exact stop a o
  | succ n ih =>
    intro a b o ha ho hb hb63
    by_cases h0 : b = 0
    · subst h0
      rw [Gf.gmA_zero]
      exact stop a o
    · have e1 : wrap64 ((a : Int) * 2) = ((a * 2 : Nat) : Int) := by rw [wrap_id (by omega) (by omega)]; omega
      have e2 : Go.bits .xor .i64 ((a * 2 : Nat) : Int) 285 = (((a * 2) ^^^ 285 : Nat) : Int) := xor_nat (a := a * 2) (b := 285) (by omega) (by decide)
      have e3 : Go.bits .xor .i64 (o : Int) (a : Int) = ((o ^^^ a : Nat) : Int) := xor_nat (by omega) (by omega)
      have e4 := and_one (a := b) hb63
      refine Ev.step (f := fun k => impl_mul.l0 k ((Gf.xt a : Nat) : Int) ((b / 2 : Nat) : Int) (((if b % 2 = 1 then o ^^^ a else o) : Nat) : Int)) (fun k => ?_) (ih _ _ _ (Gf.xt_lt a ha) ?_ (by rw [Nat.pow_succ] at hb; omega) (by omega))
      · simp only [impl_mul.l0, e1, e2, e3, e4, half_nat, Gf.xt]
        rw [if_pos (show (b : Int) > 0 by omega)]
        by_cases h1 : b % 2 = 1 <;> by_cases h2 : 255 < a * 2
        · rw [if_pos (show ((b % 2 : Nat) : Int) = 1 by omega), if_pos h1, if_pos (by omega), if_pos h2]
        · rw [if_pos (show ((b % 2 : Nat) : Int) = 1 by omega), if_pos h1, if_neg (by omega), if_neg h2]
        · rw [if_neg (show ¬ ((b % 2 : Nat) : Int) = 1 by omega), if_neg h1, if_pos (by omega), if_pos h2]
        · rw [if_neg (show ¬ ((b % 2 : Nat) : Int) = 1 by omega), if_neg h1, if_neg (by omega), if_neg h2]
      · split
        · exact Gf.xor_byte ho ha
        · exact ho
theorem impl_mul_ev (a b : Nat) (ha : a < 256) (hb : b < 256) : Ev (fun k => impl_mul.f k (a : Int) (b : Int)) ((Gf.gm a b : Nat) : Int) :=
  impl_mul_l0 8 a b 0 ha (by decide) hb (by omega)

theorem impl_eval_l0 (p : List Nat) (x : Nat) (hp : Poly.AllB p) (hx : x < 256) (hl : p.length ≤ 100000) : ∀ i : Nat, i ≤ p.length → Ev (fun k => impl_eval.l0 k (Poly.up p) (x : Int) ((Poly.gev (p.drop i) x : Nat) : Int) ((i : Int) - 1)) ((Poly.gev p x : Nat) : Int) := by
  intro i
  induction i with
  | zero =>
    intro _
    exact Ev.step (f := fun _ => some ((Poly.gev p x : Nat) : Int)) (fun k => by simp only [impl_eval.l0]; rw [if_neg (by omega)]; rfl) (Ev.now _)
  | succ i ih =>
    intro hi
    have hlt : i < p.length := by omega
    have e1 : ((i + 1 : Nat) : Int) - 1 = (i : Int) := by omega
    have hd : p.drop i = p.getD i 0 :: p.drop (i + 1) := by
      rw [List.drop_eq_getElem_cons hlt]
      simp [List.getD_eq_getElem?_getD, List.getElem?_eq_getElem hlt]
    have hv := Poly.gev_lt (hp.drop (i + 1)) x
    have hg := hp.get i
    have ih' := ih (by omega)
    rw [hd] at ih'
    rw [e1]
    have ex := xor_up (Gf.gm_lt x hv) hg
    refine Ev.step (f := fun k => (impl_mul.f k ((Poly.gev (p.drop (i + 1)) x : Nat) : Int) (x : Int)).bind fun t => impl_eval.l0 k (Poly.up p) (x : Int) (Go.bits .xor .i64 t ((p.getD i 0 : Nat) : Int)) ((i : Int) - 1)) (fun k => ?_) ?_
    · simp only [impl_eval.l0, Poly.rd_up, Poly.up_length, wrap_down i (by omega)]
      have z1 : (0 : Int) ≤ (i : Int) := by omega
      have z2 : (i : Int) < (p.length : Int) := by omega
      rw [if_pos (by omega)]
      simp only [if_pos z1, if_pos z2]
    · refine Ev.bind (impl_mul_ev _ _ hv hx) ?_
      rw [ex]
      exact ih'
theorem impl_eval_ev (p : List Nat) (x : Nat) (hp : Poly.AllB p) (hx : x < 256) (hl : p.length ≤ 100000) : Ev (fun k => impl_eval.f k (Poly.up p) (x : Int)) ((Poly.gev p x : Nat) : Int) := by
  have := impl_eval_l0 p x hp hx hl p.length (Nat.le_refl _)
  rw [List.drop_length] at this
  unfold impl_eval.f
  rw [Poly.up_length, wrap_down p.length (by omega)]
  exact this

theorem impl_pow_l0 : ∀ (f a n o : Nat), a < 256 → o < 256 → n < 2 ^ f → n < 2 ^ 63 → Ev (fun k => impl_pow.l0 k (a : Int) (n : Int) (o : Int)) ((Gf.pwA f a n o : Nat) : Int) := by
  have stop : ∀ a o : Nat, Ev (fun k => impl_pow.l0 k (a : Int) ((0 : Nat) : Int) (o : Int)) ((o : Nat) : Int) := fun a o =>
    Ev.step (f := fun _ => some ((o : Nat) : Int)) (fun k => by simp only [impl_pow.l0]; rw [if_neg (by omega)]) (Ev.now _)
  have z : ∀ f a o, Gf.pwA f a 0 o = o := by
    intro f
    induction f with
    | zero => intro a o; rfl
    | succ f ih => intro a o; exact ih _ _
  intro f
  induction f with
  | zero =>
    intro a n o ha ho hn _
    obtain rfl : n = 0 := by simpa using hn
    exact stop a o
  | succ f ih =>
    intro a n o ha ho hn hn63
    by_cases h0 : n = 0
    · subst h0
      rw [z]
      exact stop a o
    · have e4 := and_one (a := n) hn63
      have hsq := Gf.gm_lt a ha
      by_cases h1 : n % 2 = 1
      · refine Ev.step (f := fun k => (impl_mul.f k (o : Int) (a : Int)).bind fun t => (impl_mul.f k (a : Int) (a : Int)).bind fun u => impl_pow.l0 k u ((n / 2 : Nat) : Int) t) (fun k => ?_) ?_
        · simp only [impl_pow.l0, e4, half_nat]
          rw [if_pos (show (n : Int) > 0 by omega), if_pos (show ((n % 2 : Nat) : Int) = 1 by omega)]
        · have := ih (Gf.gm a a) (n / 2) (Gf.gm o a) hsq (Gf.gm_lt a ho) (by rw [Nat.pow_succ] at hn; omega) (by omega)
          show Ev _ ((Gf.pwA f (Gf.gm a a) (n / 2) (if n % 2 = 1 then Gf.gm o a else o) : Nat) : Int)
          rw [if_pos h1]
          exact Ev.bind (f := fun k t => (impl_mul.f k (a : Int) (a : Int)).bind fun u => impl_pow.l0 k u ((n / 2 : Nat) : Int) t) (impl_mul_ev o a ho ha) (Ev.bind (f := fun k u => impl_pow.l0 k u ((n / 2 : Nat) : Int) ((Gf.gm o a : Nat) : Int)) (impl_mul_ev a a ha ha) this)
      · refine Ev.step (f := fun k => (impl_mul.f k (a : Int) (a : Int)).bind fun u => impl_pow.l0 k u ((n / 2 : Nat) : Int) (o : Int)) (fun k => ?_) ?_
        · simp only [impl_pow.l0, e4, half_nat]
          rw [if_pos (show (n : Int) > 0 by omega), if_neg (show ¬ ((n % 2 : Nat) : Int) = 1 by omega)]
        · have := ih (Gf.gm a a) (n / 2) o hsq ho (by rw [Nat.pow_succ] at hn; omega) (by omega)
          show Ev _ ((Gf.pwA f (Gf.gm a a) (n / 2) (if n % 2 = 1 then Gf.gm o a else o) : Nat) : Int)
          rw [if_neg h1]
          exact Ev.bind (f := fun k u => impl_pow.l0 k u ((n / 2 : Nat) : Int) (o : Int)) (impl_mul_ev a a ha ha) this
theorem impl_pow_ev (a n : Nat) (ha : a < 256) (hn : n < 2 ^ 62) : Ev (fun k => impl_pow.f k (a : Int) (n : Int)) ((Gf.pw a n : Nat) : Int) := by
  have := impl_pow_l0 62 a n 1 ha (by decide) hn (by omega)
  rw [Gf.pwA_eq 62 a n 1 ha (by decide) hn, Gf.one_gm _ (Gf.pw_lt n)] at this
  exact this

theorem impl_syndromes_l0 (m : List Nat) (w : Nat) (hm : Poly.AllB m) (hl : m.length ≤ 1000) (hw : w ≤ 3) : ∀ d n : Nat, n + d = 2 * w → Ev (fun k => impl_syndromes.l0 k (Poly.up m) (Poly.up (synL m n)) ((2 * w : Nat) : Int) (n : Int)) (Poly.up (synL m (2 * w))) := by
  intro d
  induction d with
  | zero =>
    intro n hn
    obtain rfl : n = 2 * w := by omega
    exact Ev.step (f := fun _ => some (Poly.up (synL m (2 * w)))) (fun k => by simp only [impl_syndromes.l0]; rw [if_neg (by omega)]) (Ev.now _)
  | succ d ih =>
    intro n hn
    have z : (Poly.up (synL m n)).length < 17592186044416 := by rw [Poly.up_length, synL_length]; omega
    refine Ev.step (fun k => impl_syndromes.l0.eq_2 _ _ _ _ k) ?_
    have z1 : (n : Int) < ((2 * w : Nat) : Int) := by omega
    simp only [if_pos z1, if_pos z, wrap_up n (by omega)]
    refine Ev.bind (impl_pow_ev 2 n (by decide) (by omega)) ?_
    refine Ev.bind (impl_eval_ev m (Gf.pw 2 n) hm (Gf.pw_lt n) (by omega)) ?_
    rw [Poly.up_snoc, ← synL_succ]
    exact ih (n + 1) (by omega)
theorem impl_syndromes_ev (m : List Nat) (w : Nat) (hm : Poly.AllB m) (hl : m.length ≤ 1000) (hw : w ≤ 3) : Ev (fun k => impl_syndromes.f k (Poly.up m) (w : Int)) (Poly.up (synL m (2 * w))) := by
  have e2 : wrap64 (2 * (w : Int)) = ((2 * w : Nat) : Int) := by rw [wrap_id (by omega) (by omega)]; omega
  unfold impl_syndromes.f
  rw [e2]
  exact impl_syndromes_l0 m w hm hl hw (2 * w) 0 (by omega)

theorem mx_nat (a b : Nat) : mx (a : Int) (b : Int) = ((max a b : Nat) : Int) := by unfold mx; split <;> omega
theorem slices_Max_l0 (l : List Nat) (hl : l.length ≤ 1000) : ∀ d i v : Nat, i + d = l.length → Ev (fun k => slices_Max_int_int.l0 k (Poly.up l) (v : Int) (i : Int)) (((l.drop i).foldl max v : Nat) : Int) := by
  intro d
  induction d with
  | zero =>
    intro i v hi
    obtain rfl : i = l.length := by omega
    rw [List.drop_length]
    exact Ev.step (f := fun _ => some (v : Int)) (fun k => by simp only [slices_Max_int_int.l0, Poly.up_length]; rw [if_neg (by omega)]) (Ev.now _)
  | succ d ih =>
    intro i v hi
    have hlt : i < l.length := by omega
    have hd : l.drop i = l.getD i 0 :: l.drop (i + 1) := by
      rw [List.drop_eq_getElem_cons hlt]
      simp [List.getD_eq_getElem?_getD, List.getElem?_eq_getElem hlt]
    have z1 : (i : Int) < (l.length : Int) := by omega
    have z2 : (0 : Int) ≤ (i : Int) := by omega
    refine Ev.step (fun k => slices_Max_int_int.l0.eq_2 _ _ _ k) ?_
    simp only [Poly.rd_up, Poly.up_length, if_pos z1, if_pos z2, wrap_up i (by omega), mx_nat]
    rw [hd]
    exact ih (i + 1) _ (by omega)
theorem slices_Max_ev (l : List Nat) (hl : l.length ≤ 1000) (h0 : 0 < l.length) : Ev (fun k => slices_Max_int_int.f k (Poly.up l)) (((l.drop 1).foldl max (l.getD 0 0) : Nat) : Int) := by
  unfold slices_Max_int_int.f
  have z1 : ¬ (l.length : Int) < 1 := by omega
  have z2 : (0 : Int) < (l.length : Int) := by omega
  have e : rd (Poly.up l) 0 = ((l.getD 0 0 : Nat) : Int) := Poly.rd_up l 0
  simp only [Poly.up_length, if_neg z1, if_pos z2, e]
  exact slices_Max_l0 l hl (l.length - 1) 1 _ (by omega)
theorem max_zero : ∀ (l : List Nat) (v : Nat), (l.foldl max v = 0) ↔ (v = 0 ∧ ∀ x ∈ l, x = 0)
  | [], v => by simp
  | a :: l, v => by
    rw [List.foldl_cons, max_zero l]
    constructor
    · rintro ⟨h1, h2⟩
      refine ⟨by omega, fun x hx => ?_⟩
      rcases List.mem_cons.1 hx with rfl | hx
      · omega
      · exact h2 x hx
    · rintro ⟨h1, h2⟩
      have := h2 a List.mem_cons_self
      exact ⟨by omega, fun x hx => h2 x (List.mem_cons_of_mem _ hx)⟩
theorem max_zeroL (l : List Nat) (h : 0 < l.length) : ((((l.drop 1).foldl max (l.getD 0 0) : Nat) : Int) == 0) = zeroL l := by
  cases l with
  | nil => simp at h
  | cons a l =>
    have e : (((((a :: l).drop 1).foldl max ((a :: l).getD 0 0) : Nat) : Int) == 0) = decide ((l.foldl max a) = 0) := by
      show (((l.foldl max a : Nat) : Int) == 0) = _
      by_cases h0 : l.foldl max a = 0
      · rw [h0]; rfl
      · rw [decide_eq_false h0]
        exact beq_eq_false_iff_ne.2 (by omega)
    rw [e]
    unfold zeroL
    by_cases h0 : l.foldl max a = 0
    · rw [decide_eq_true h0]
      symm
      rw [List.all_eq_true]
      have := (max_zero l a).1 h0
      intro x hx
      rcases List.mem_cons.1 hx with rfl | hx
      · simp [this.1]
      · simp [this.2 x hx]
    · rw [decide_eq_false h0]
      symm
      rw [Bool.eq_false_iff]
      intro hall
      rw [List.all_eq_true] at hall
      refine h0 ((max_zero l a).2 ⟨by simpa using hall a List.mem_cons_self, fun x hx => by simpa using hall x (List.mem_cons_of_mem _ hx)⟩)

theorem impl_isRight_ev (m : List Nat) (w : Nat) (hm : Poly.AllB m) (hl : m.length ≤ 1000) (hw : w ≤ 3) (hw1 : 1 ≤ w) : Ev (fun k => impl_isRight.f k (Poly.up m) (w : Int)) (zeroL (synL m (2 * w))) := by
  unfold impl_isRight.f
  refine Ev.bind (impl_syndromes_ev m w hm hl hw) ?_
  refine Ev.bind (slices_Max_ev (synL m (2 * w)) (by rw [synL_length]; omega) (by rw [synL_length]; omega)) ?_
  rw [max_zeroL _ (by rw [synL_length]; omega)]
  exact Ev.now _

theorem impl_IsWord_ev (l : List Int) (w : Int) : Ev (fun k => impl_IsWord.f k l w) (wordV l w) := by
  unfold impl_IsWord.f wordV
  simp only [impl_isLong_eq, Option.bind_some]
  cases h : isLg l w
  · exact Ev.now _
  · obtain ⟨m, n, rfl, rfl, hm, h1, h3, h4, h5⟩ := isLg_up h
    simp only [if_true, toNat_up, Int.toNat_natCast]
    exact Ev.bind (impl_isRight_ev m n hm (by omega) h3 h1) (Ev.now _)

theorem nat_nn (n : Nat) : ((n : Int) < 0) = False := by simp
theorem one_nat : (1 : Int) = ((1 : Nat) : Int) := rfl
theorem one_nn (n : Nat) : (((n : Nat) : Int) = ((n : Nat) : Int)) = True := by simp

theorem FnExactIsWord : laws_FnExactIsWord.Pure := by
  intro a w _ _ _ _
  by_cases ha : (a.length : Int) > 1048576
  · exact ⟨0, by unfold laws_FnExactIsWord.f; rw [if_pos ha]⟩
  have ha' : a.length ≤ 1048576 := by omega
  have E1 := laws_toIntS_ev a (by omega)
  have E3 := spec_IsWord_ev a w (by omega)
  have E4 := impl_IsWord_ev a w
  have E5 := laws_eqIntS_ev a a (by omega)
  refine Ev.rounds ?_
  unfold laws_FnExactIsWord.f
  simp only [if_neg ha]
  repeat' first
    | exact Ev.now _
    | refine Ev.bind (by assumption) ?_
    | refine Ev.step (fun k => laws_FnExactIsWord.j0.eq_2 _ _ _ k) ?_
    | simp only [decide_true, decide_false, if_true, if_false, bne_self_eq_false, Bool.false_eq_true, Bool.not_true, Bool.not_false, Bool.and_true, Bool.and_self, nat_nn, Option.bind_some, beq_self_eq_true, one_nn]

end Go.Proofs.Ytekadhniinpdfaa.Pure
