/- LocatorOf answers as the reference's LocatorOf does, for all lists, leaves its list as it was, and hands out memory of its own. No conditions beyond the row's own. -/
import Derived.Test.YtncgojfhaagkkaaMFnExactLocatorOfx6
import Derived.Test.YtncgojfhaagkkaaBit
import Derived.Test.YtncgojfhaagkkaaPoly
import Derived.Test.YtncgojfhaagkkaaLin
import Derived.Test.YtncgojfhaagkkaaPev
import Derived.Test.YtncgojfhaagkkaaBm
set_option linter.unusedVariables false
set_option linter.unusedSimpArgs false
namespace Go.Proofs.Ytncgojfhaagkkaa.Pure
open Go.RowKit Go.Proofs.Ytncgojfhaagkkaa Go.Proofs.Ytncgojfhaagkkaa.MFnExactLocatorOf Go.Proofs.YtncgojfhaagkkaaW.PrintWords Go.Proofs.YtncgojfhaagkkaaW.PrintLast Go.Proofs.Ytncgojfhaagkkaa.Bit

theorem impl_within_eq (a b c : Int) : impl_within.f a b c = some (decide (b ≤ a ∧ a ≤ c)) := by
  unfold impl_within.f
  by_cases h : a ≥ b
  · rw [if_pos h]; congr 1; simp [show b ≤ a from h]
  · rw [if_neg h]; congr 1; simp; omega

/-- Is a number an element? -/
def isB (a : Int) : Bool := decide (0 ≤ a ∧ a ≤ 255)
theorem isB_nat {a : Int} (h : isB a = true) : ∃ n : Nat, a = (n : Int) ∧ n < 256 := by
  simp only [isB, decide_eq_true_eq] at h
  exact ⟨a.toNat, by omega, by omega⟩
theorem isB_cast {n : Nat} (h : n < 256) : isB (n : Int) = true := by simp only [isB, decide_eq_true_eq]; omega

theorem impl_isGf_eq (a : Int) : impl_isGf.f a = some (isB a) := by
  unfold impl_isGf.f; rw [impl_within_eq]; rfl

theorem spec_l1In_eq (a b c : Int) : spec_l1In.f a b c = some (decide (b ≤ a ∧ a ≤ c)) := by
  unfold spec_l1In.f
  by_cases h : a ≥ b
  · rw [if_pos h]; congr 1; simp [show b ≤ a from h]
  · rw [if_neg h]; congr 1; simp; omega

theorem spec_l1Gf_eq (a : Int) : spec_l1Gf.f a = some (isB a) := by
  unfold spec_l1Gf.f; rw [spec_l1In_eq]; rfl

theorem rd_nat (l : List Int) (i : Nat) (h : i < l.length) : rd l (i : Int) = l[i] := by
  unfold rd
  simp [List.getD_eq_getElem?_getD, List.getElem?_eq_getElem h]
theorem wrap_succ (i : Nat) (h : i < 9223372036854775807) : wrap64 ((i : Int) + 1) = ((i + 1 : Nat) : Int) := by rw [wrap_id (by omega) (by omega)]; omega

theorem rd_get (l : List Int) (i : Nat) (h : i < l.length) : rd l (i : Int) = l[i] := by
  unfold rd
  simp [List.getD_eq_getElem?_getD, List.getElem?_eq_getElem h]
theorem wrap_up (i : Nat) (h : i < 9223372036854775807) : wrap64 ((i : Int) + 1) = ((i + 1 : Nat) : Int) := by rw [wrap_id (by omega) (by omega)]; omega
theorem wrap_down (a : Nat) (h : a ≤ 9223372036854775807) : wrap64 ((a : Int) - 1) = (a : Int) - 1 := wrap_id (by omega) (by omega)
theorem allB_up {l : List Int} (h : l.all isB = true) : ∃ m : List Nat, l = Poly.up m ∧ Poly.AllB m := by
  refine Poly.up_of fun x hx => ?_
  have := List.all_eq_true.1 h x hx
  simpa [isB] using this
theorem up_allB {m : List Nat} (h : Poly.AllB m) : (Poly.up m).all isB = true := by
  rw [List.all_eq_true]
  intro x hx
  have := Poly.up_bytes h x hx
  simp only [isB, decide_eq_true_eq]; omega

theorem spec_l1All_l0 (l : List Int) (hl : l.length ≤ 140737488351232) : ∀ d i : Nat, i + d = l.length → Ev (fun k => spec_l1All.l0 k l (l.length : Int) (i : Int)) ((l.drop i).all isB) := by
  intro d
  induction d with
  | zero =>
    intro i hi
    obtain rfl : i = l.length := by omega
    rw [List.drop_length]
    exact Ev.step (f := fun _ => some true) (fun k => by simp only [spec_l1All.l0]; rw [if_neg (by omega)]) (Ev.now _)
  | succ d ih =>
    intro i hi
    have hlt : i < l.length := by omega
    rw [List.drop_eq_getElem_cons hlt, List.all_cons]
    cases hb : isB l[i] with
    | true =>
      refine Ev.step (f := fun k => spec_l1All.l0 k l (l.length : Int) ((i + 1 : Nat) : Int)) (fun k => ?_) (ih (i + 1) (by omega))
      simp only [spec_l1All.l0, rd_get l i hlt, wrap_up i (by omega), spec_l1Gf_eq, hb, Option.bind_some, if_true]
      rw [if_pos (by omega), if_pos (by omega), if_pos (by omega)]
    | false =>
      refine Ev.step (f := fun _ => some false) (fun k => ?_) (Ev.now _)
      simp only [spec_l1All.l0, rd_get l i hlt, wrap_up i (by omega), spec_l1Gf_eq, hb, Option.bind_some]
      rw [if_pos (by omega), if_pos (by omega), if_pos (by omega)]; rfl
theorem spec_l1All_ev (l : List Int) (hl : l.length ≤ 140737488351232) : Ev (fun k => spec_l1All.f k l) (l.all isB) := spec_l1All_l0 l hl l.length 0 (by omega)

theorem spec_l1Mul_l0 : ∀ (n a b o : Nat), a < 256 → o < 256 → b < 2 ^ n → b < 2 ^ 63 → Ev (fun k => spec_l1Mul.l0 k (a : Int) (b : Int) (o : Int)) ((Gf.gmA n a b o : Nat) : Int) := by
  have stop : ∀ a o : Nat, Ev (fun k => spec_l1Mul.l0 k (a : Int) ((0 : Nat) : Int) (o : Int)) ((o : Nat) : Int) := fun a o =>
    Ev.step (f := fun _ => some ((o : Nat) : Int)) (fun k => by simp only [spec_l1Mul.l0]; rw [if_neg (by omega)]) (Ev.now _)
  intro n
  induction n with
  | zero =>
    intro a b o ha ho hb _
    obtain rfl : b = 0 := by simpa using hb
    exact stop a o
  | succ n ih =>
    intro a b o ha ho hb hb63
    by_cases h0 : b = 0
    · subst h0
      rw [Gf.gmA_zero]
      exact stop a o
    · have e1 : wrap64 ((a : Int) * 2) = ((a * 2 : Nat) : Int) := by rw [wrap_id (by omega) (by omega)]; omega
      have e2 : Go.bits .xor .i64 ((a * 2 : Nat) : Int) 285 = (((a * 2) ^^^ 285 : Nat) : Int) := xor_nat (a := a * 2) (b := 285) (by omega) (by decide)
      have e3 : Go.bits .xor .i64 (o : Int) (a : Int) = ((o ^^^ a : Nat) : Int) := xor_nat (by omega) (by omega)
      have e4 := and_one (a := b) hb63
      refine Ev.step (f := fun k => spec_l1Mul.l0 k ((Gf.xt a : Nat) : Int) ((b / 2 : Nat) : Int) (((if b % 2 = 1 then o ^^^ a else o) : Nat) : Int)) (fun k => ?_) (ih _ _ _ (Gf.xt_lt a ha) ?_ (by rw [Nat.pow_succ] at hb; omega) (by omega))
      · simp only [spec_l1Mul.l0, e1, e2, e3, e4, half_nat, Gf.xt]
        rw [if_pos (show (b : Int) > 0 by omega)]
        by_cases h1 : b % 2 = 1 <;> by_cases h2 : 255 < a * 2
        · rw [if_pos (show ((b % 2 : Nat) : Int) = 1 by omega), if_pos h1, if_pos (by omega), if_pos h2]
        · rw [if_pos (show ((b % 2 : Nat) : Int) = 1 by omega), if_pos h1, if_neg (by omega), if_neg h2]
        · rw [if_neg (show ¬ ((b % 2 : Nat) : Int) = 1 by omega), if_neg h1, if_pos (by omega), if_pos h2]
        · rw [if_neg (show ¬ ((b % 2 : Nat) : Int) = 1 by omega), if_neg h1, if_neg (by omega), if_neg h2]
      · split
        · exact Gf.xor_byte ho ha
        · exact ho
theorem spec_l1Mul_ev (a b : Nat) (ha : a < 256) (hb : b < 256) : Ev (fun k => spec_l1Mul.f k (a : Int) (b : Int)) ((Gf.gm a b : Nat) : Int) :=
  spec_l1Mul_l0 8 a b 0 ha (by decide) hb (by omega)

theorem spec_l1Pow_l0 : ∀ (f a n o : Nat), a < 256 → o < 256 → n < 2 ^ f → n < 2 ^ 63 → Ev (fun k => spec_l1Pow.l0 k (a : Int) (n : Int) (o : Int)) ((Gf.pwA f a n o : Nat) : Int) := by
  have stop : ∀ a o : Nat, Ev (fun k => spec_l1Pow.l0 k (a : Int) ((0 : Nat) : Int) (o : Int)) ((o : Nat) : Int) := fun a o =>
    Ev.step (f := fun _ => some ((o : Nat) : Int)) (fun k => by simp only [spec_l1Pow.l0]; rw [if_neg (by omega)]) (Ev.now _)
  have z : ∀ f a o, Gf.pwA f a 0 o = o := by
    intro f
    induction f with
    | zero => intro a o; rfl
    | succ f ih => intro a o; exact ih _ _
  intro f
  induction f with
  | zero =>
    intro a n o ha ho hn _
    obtain rfl : n = 0 := by simpa using hn
    exact stop a o
  | succ f ih =>
    intro a n o ha ho hn hn63
    by_cases h0 : n = 0
    · subst h0
      rw [z]
      exact stop a o
    · have e4 := and_one (a := n) hn63
      have hsq := Gf.gm_lt a ha
      by_cases h1 : n % 2 = 1
      · refine Ev.step (f := fun k => (spec_l1Mul.f k (o : Int) (a : Int)).bind fun t => (spec_l1Mul.f k (a : Int) (a : Int)).bind fun u => spec_l1Pow.l0 k u ((n / 2 : Nat) : Int) t) (fun k => ?_) ?_
        · simp only [spec_l1Pow.l0, e4, half_nat]
          rw [if_pos (show (n : Int) > 0 by omega), if_pos (show ((n % 2 : Nat) : Int) = 1 by omega)]
        · have := ih (Gf.gm a a) (n / 2) (Gf.gm o a) hsq (Gf.gm_lt a ho) (by rw [Nat.pow_succ] at hn; omega) (by omega)
          show Ev _ ((Gf.pwA f (Gf.gm a a) (n / 2) (if n % 2 = 1 then Gf.gm o a else o) : Nat) : Int)
          rw [if_pos h1]
          exact Ev.bind (f := fun k t => (spec_l1Mul.f k (a : Int) (a : Int)).bind fun u => spec_l1Pow.l0 k u ((n / 2 : Nat) : Int) t) (spec_l1Mul_ev o a ho ha) (Ev.bind (f := fun k u => spec_l1Pow.l0 k u ((n / 2 : Nat) : Int) ((Gf.gm o a : Nat) : Int)) (spec_l1Mul_ev a a ha ha) this)
      · refine Ev.step (f := fun k => (spec_l1Mul.f k (a : Int) (a : Int)).bind fun u => spec_l1Pow.l0 k u ((n / 2 : Nat) : Int) (o : Int)) (fun k => ?_) ?_
        · simp only [spec_l1Pow.l0, e4, half_nat]
          rw [if_pos (show (n : Int) > 0 by omega), if_neg (show ¬ ((n % 2 : Nat) : Int) = 1 by omega)]
        · have := ih (Gf.gm a a) (n / 2) o hsq ho (by rw [Nat.pow_succ] at hn; omega) (by omega)
          show Ev _ ((Gf.pwA f (Gf.gm a a) (n / 2) (if n % 2 = 1 then Gf.gm o a else o) : Nat) : Int)
          rw [if_neg h1]
          exact Ev.bind (f := fun k u => spec_l1Pow.l0 k u ((n / 2 : Nat) : Int) (o : Int)) (spec_l1Mul_ev a a ha ha) this
theorem spec_l1Pow_ev (a n : Nat) (ha : a < 256) (hn : n < 2 ^ 62) : Ev (fun k => spec_l1Pow.f k (a : Int) (n : Int)) ((Gf.pw a n : Nat) : Int) := by
  have := spec_l1Pow_l0 62 a n 1 ha (by decide) hn (by omega)
  rw [Gf.pwA_eq 62 a n 1 ha (by decide) hn, Gf.one_gm _ (Gf.pw_lt n)] at this
  exact this

theorem spec_l1Div_ev (a b : Nat) (ha : a < 256) (hb : b < 256) : Ev (fun k => spec_l1Div.f k (a : Int) (b : Int)) ((Gf.gm a (Gf.gi b) : Nat) : Int) := by
  unfold spec_l1Div.f
  refine Ev.bind (f := fun k t => (spec_l1Mul.f k (a : Int) t).bind fun u => some u) (spec_l1Pow_ev b 254 hb (by decide)) ?_
  exact Ev.bind (f := fun _ u => some u) (spec_l1Mul_ev a (Gf.gi b) ha (Gf.gi_lt b)) (Ev.now _)

theorem xor_up {a b : Nat} (ha : a < 256) (hb : b < 256) : Go.bits .xor .i64 (a : Int) (b : Int) = ((a ^^^ b : Nat) : Int) := xor_nat (by omega) (by omega)
theorem wrap_nat (n : Nat) (h : n ≤ 9223372036854775807) : wrap64 (n : Int) = (n : Int) := wrap_id (by omega) (by omega)
theorem wrap_add (a b : Nat) (h : a + b ≤ 9223372036854775807) : wrap64 ((a : Int) + (b : Int)) = ((a + b : Nat) : Int) := by rw [wrap_id (by omega) (by omega)]; omega
theorem wrap_pred (a : Nat) (h : a ≤ 9223372036854775807) (h0 : 0 < a) : wrap64 ((a : Int) - 1) = ((a - 1 : Nat) : Int) := by rw [wrap_id (by omega) (by omega)]; omega

theorem spec_l1Cut_l0 (l : List Nat) (hl : l.length ≤ 1000000) : ∀ n, n ≤ l.length → Ev (fun k => spec_l1Cut.l0 k (Poly.up (l.take n))) (Poly.up (Poly.trN l n)) := by
  intro n
  induction n with
  | zero =>
    intro _
    refine Ev.step (f := fun _ => some (Poly.up (Poly.trN l 0))) (fun k => ?_) (Ev.now _)
    simp only [spec_l1Cut.l0, List.take_zero, Poly.up_length, Option.bind_some]
    rw [if_neg (by simp), if_pos (by simp)]
    rfl
  | succ n ih =>
    intro hn
    have hlen : (Poly.up (l.take (n + 1))).length = n + 1 := by rw [Poly.up_length, List.length_take]; omega
    have hw : wrap64 (((n + 1 : Nat) : Int) - 1) = (n : Int) := by rw [wrap_pred _ (by omega) (by omega)]; rfl
    have hr : rd (Poly.up (l.take (n + 1))) (n : Int) = ((l.getD n 0 : Nat) : Int) := by
      rw [Poly.rd_up]
      simp only [List.getD_eq_getElem?_getD]
      rw [List.getElem?_take_of_lt (by omega)]
    unfold Poly.trN
    by_cases h : l.getD n 0 = 0
    · rw [if_pos h]
      refine Ev.step (f := fun k => spec_l1Cut.l0 k (Poly.up (l.take n))) (fun k => ?_) (ih (by omega))
      simp only [spec_l1Cut.l0, hlen, hw, hr, h]
      rw [if_pos (by omega), if_pos (by omega), if_pos (by omega), if_pos (by omega), if_pos (by omega), Int.toNat_natCast, Poly.up_take, List.take_take, Nat.min_eq_left (by omega)]
    · rw [if_neg h]
      refine Ev.step (f := fun _ => some (Poly.up (l.take (n + 1)))) (fun k => ?_) (Ev.now _)
      simp only [spec_l1Cut.l0, hlen, hw, hr, Option.bind_some]
      rw [if_pos (by omega), if_pos (by omega), if_pos (by omega), if_neg (by omega), if_pos (by simp; omega)]
      rfl
theorem spec_l1Cut_ev (l : List Nat) (hl : l.length ≤ 1000000) : Ev (fun k => spec_l1Cut.f k (Poly.up l)) (Poly.up (Poly.tr l)) := by
  have := spec_l1Cut_l0 l hl l.length (Nat.le_refl _)
  rw [List.take_length] at this
  exact this

/-- Is a list a polynomial? -/
def isP (l : List Int) : Bool := decide (l.length ≤ 40) && (l.all isB && (decide (l.length = 0) || (rd l ((l.length : Int) - 1) != 0)))
theorem isP_up {l : List Int} (h : isP l = true) : ∃ m : List Nat, l = Poly.up m ∧ Poly.AllB m ∧ m.length ≤ 40 ∧ (m = [] ∨ m.getD (m.length - 1) 0 ≠ 0) := by
  unfold isP at h
  simp only [Bool.and_eq_true, Bool.or_eq_true, decide_eq_true_eq, bne_iff_ne] at h
  obtain ⟨h1, h2, h3⟩ := h
  obtain ⟨m, rfl, hm⟩ := allB_up h2
  rw [Poly.up_length] at h1 h3
  refine ⟨m, rfl, hm, h1, ?_⟩
  rcases h3 with h3 | h3
  · exact .inl (List.length_eq_zero_iff.1 h3)
  · by_cases h0 : m.length = 0
    · exact .inl (List.length_eq_zero_iff.1 h0)
    · refine .inr fun e => h3 ?_
      have : (m.length : Int) - 1 = ((m.length - 1 : Nat) : Int) := by omega
      rw [this, Poly.rd_up, e]; rfl
theorem up_isP {m : List Nat} (hm : Poly.AllB m) (hl : m.length ≤ 40) (h : m = [] ∨ m.getD (m.length - 1) 0 ≠ 0) : isP (Poly.up m) = true := by
  unfold isP
  simp only [Bool.and_eq_true, Bool.or_eq_true, decide_eq_true_eq, bne_iff_ne, Poly.up_length]
  refine ⟨hl, up_allB hm, ?_⟩
  by_cases h0 : m.length = 0
  · exact .inl h0
  · refine .inr fun e => ?_
    have e1 : (m.length : Int) - 1 = ((m.length - 1 : Nat) : Int) := by omega
    rw [e1, Poly.rd_up] at e
    rcases h with h | h
    · rw [h] at h0; exact h0 rfl
    · exact h (by omega)

theorem wrap_sub (a b : Nat) (h : b ≤ a) (h2 : a ≤ 9223372036854775807) : wrap64 ((a : Int) - (b : Int)) = ((a - b : Nat) : Int) := by rw [wrap_id (by omega) (by omega)]; omega
theorem wrap_two (a : Nat) (h : a ≤ 1000000) : wrap64 (2 * (a : Int)) = ((2 * a : Nat) : Int) := by rw [wrap_id (by omega) (by omega)]; omega
theorem wrap_addn (a b : Nat) (h : a + b ≤ 9223372036854775807) : wrap64 ((a : Int) + (b : Int)) = ((a + b : Nat) : Int) := by rw [wrap_id (by omega) (by omega)]; omega
theorem drop_getD (l : List Nat) (i : Nat) (h : i < l.length) : l.drop i = l.getD i 0 :: l.drop (i + 1) := by
  rw [List.drop_eq_getElem_cons h]
  simp [List.getD_eq_getElem?_getD, List.getElem?_eq_getElem h]

theorem spec_l4Add_l1 (f m : Nat) (b : List Nat) (hf : f < 256) (hb : Poly.AllB b) (hm : m ≤ 1000) (hbl : b.length ≤ 1000) : ∀ (d j : Nat) (out : List Nat), j + d = b.length → Poly.AllB out → m + b.length ≤ out.length → out.length ≤ 5000 →
    Ev (fun r => spec_l4Add.l1 r (f : Int) (m : Int) (Poly.up out) (Poly.up b) (b.length : Int) (j : Int)) (Poly.up (Poly.mrow f (b.drop j) (m + j) out)) := by
  intro d
  induction d with
  | zero =>
    intro j out hj ho hl hl2
    obtain rfl : j = b.length := by omega
    rw [List.drop_length]
    exact Ev.step (f := fun _ => some (Poly.up out)) (fun k => by simp only [spec_l4Add.l1]; rw [if_neg (by omega)]) (Ev.now _)
  | succ d ih =>
    intro j out hj ho hl hl2
    have hjl : j < b.length := by omega
    have z1 : (j : Int) < (b.length : Int) := by omega
    have z2 : (0 : Int) ≤ (j : Int) := by omega
    have z3 : (0 : Int) ≤ ((j + m : Nat) : Int) := by omega
    have z4 : ((j + m : Nat) : Int) < (out.length : Int) := by omega
    have hx := xor_up (ho.get (j + m)) (Gf.gm_lt (b.getD j 0) hf)
    refine Ev.step (fun k => spec_l4Add.l1.eq_2 _ _ _ _ _ _ k) ?_
    simp only [Poly.rd_up, Poly.up_length, if_pos z1, if_pos z2, wrap_addn j m (by omega), if_pos z3, if_pos z4, wrap_up j (by omega), Int.toNat_natCast]
    refine Ev.bind (spec_l1Mul_ev f (b.getD j 0) hf (hb.get j)) ?_
    simp only [hx, Poly.up_set]
    rw [drop_getD b j hjl]
    unfold Poly.mrow
    rw [Nat.add_comm m j]
    have := ih (j + 1) (out.set (j + m) (out.getD (j + m) 0 ^^^ Gf.gm f (b.getD j 0))) (by omega) (ho.set _ (Gf.xor_byte (ho.get _) (Gf.gm_lt _ hf))) (by rw [List.length_set]; exact hl) (by rw [List.length_set]; exact hl2)
    rw [show m + (j + 1) = j + m + 1 by omega] at this
    exact this
theorem spec_l4Add_l0 (f m : Nat) (b c : List Nat) (hf : f < 256) (hb : Poly.AllB b) (hm : m ≤ 1000) (hbl : b.length ≤ 1000) (hc : Poly.AllB c) (hcl : c.length ≤ 1000) : ∀ (d n : Nat), n + d = m + b.length - c.length →
    Ev (fun r => spec_l4Add.l0 r (Poly.up b) (f : Int) (m : Int) (Poly.up (c ++ List.replicate n 0))) (Poly.up (Bm.upd c b f m)) := by
  intro d
  induction d with
  | zero =>
    intro n hn
    obtain rfl : n = m + b.length - c.length := by omega
    have hlen : (c ++ List.replicate (m + b.length - c.length) 0).length = c.length + (m + b.length - c.length) := by rw [List.length_append, List.length_replicate]
    have z : ¬ ((c ++ List.replicate (m + b.length - c.length) 0).length : Int) < ((b.length + m : Nat) : Int) := by omega
    refine Ev.step (fun k => spec_l4Add.l0.eq_2 _ _ _ _ k) ?_
    simp only [Poly.up_length, wrap_addn b.length m (by omega), if_neg z]
    have := spec_l4Add_l1 f m b hf hb hm hbl b.length 0 (c ++ List.replicate (m + b.length - c.length) 0) (by omega) (hc.append (Poly.AllB.zeros _)) (by omega) (by omega)
    rw [List.drop_zero, Nat.add_zero] at this
    exact this
  | succ d ih =>
    intro n hn
    have hlen : (c ++ List.replicate n 0).length = c.length + n := by rw [List.length_append, List.length_replicate]
    have z : ((c ++ List.replicate n 0).length : Int) < ((b.length + m : Nat) : Int) := by omega
    have z2 : (c ++ List.replicate n 0).length < 17592186044416 := by omega
    refine Ev.step (fun k => spec_l4Add.l0.eq_2 _ _ _ _ k) ?_
    simp only [Poly.up_length, wrap_addn b.length m (by omega), if_pos z, if_pos z2]
    have e : Poly.up (c ++ List.replicate n 0) ++ [0] = Poly.up (c ++ List.replicate (n + 1) 0) := by
      rw [show ([0] : List Int) = [((0 : Nat) : Int)] from rfl, Poly.up_snoc, List.append_assoc, List.replicate_succ']
    rw [e]
    exact ih (n + 1) (by omega)
theorem spec_l4Add_ev (f m : Nat) (b c : List Nat) (hf : f < 256) (hb : Poly.AllB b) (hm : m ≤ 1000) (hbl : b.length ≤ 1000) (hc : Poly.AllB c) (hcl : c.length ≤ 1000) : Ev (fun r => spec_l4Add.f r (Poly.up c) (Poly.up b) (f : Int) (m : Int)) (Poly.up (Bm.upd c b f m)) := by
  have z : (([] : List Int)).length + (Poly.up c).length < 17592186044416 := by rw [Poly.up_length]; simp; omega
  unfold spec_l4Add.f
  simp only [Option.bind_some, if_pos z, List.nil_append]
  have := spec_l4Add_l0 f m b c hf hb hm hbl hc hcl (m + b.length - c.length) 0 (by omega)
  rw [List.replicate_zero, List.append_nil] at this
  exact this

/-- The loop over the terms of a discrepancy. -/
theorem spec_l4Locator_l1 (s : List Nat) (hs : Poly.AllB s) (hl : s.length ≤ 100) {k : Nat} (hk : k < s.length) {t : Bm.St} (h : Bm.Inv s k t) {R : List Int} (hj : Ev (fun r => spec_l4Locator.j2 r (Poly.up s) (Poly.up t.c) (Poly.up t.b) (t.long : Int) (t.m : Int) (t.last : Int) (k : Int) ((Bm.disc s t k : Nat) : Int) (s.length : Int) (k : Int)) R) :
    ∀ d i : Nat, i + d = min (t.long + 1) t.c.length → Ev (fun r => spec_l4Locator.l1 r (Poly.up s) (Poly.up t.c) (Poly.up t.b) (t.long : Int) (t.m : Int) (t.last : Int) (k : Int) ((Lin.xs i (fun i => Gf.gm (t.c.getD i 0) (s.getD (k - i) 0)) : Nat) : Int) (i : Int) (s.length : Int) (k : Int)) R := by
  have hlk := h.lk
  have hsz := h.sz
  intro d
  induction d with
  | zero =>
    intro i hi
    obtain rfl : i = min (t.long + 1) t.c.length := by omega
    refine Ev.step (fun k => spec_l4Locator.l1.eq_2 _ _ _ _ _ _ _ _ _ _ _ k) ?_
    by_cases h1 : min (t.long + 1) t.c.length ≤ t.long
    · have z1 : ((min (t.long + 1) t.c.length : Nat) : Int) ≤ (t.long : Int) := by omega
      have z2 : ¬ ((min (t.long + 1) t.c.length : Nat) : Int) < (t.c.length : Int) := by omega
      simp only [Poly.up_length, if_pos z1, if_neg z2]
      exact hj
    · have z1 : ¬ ((min (t.long + 1) t.c.length : Nat) : Int) ≤ (t.long : Int) := by omega
      simp only [if_neg z1]
      exact hj
  | succ d ih =>
    intro i hi
    have z1 : (i : Int) ≤ (t.long : Int) := by omega
    have z2 : (i : Int) < (t.c.length : Int) := by omega
    have z3 : (0 : Int) ≤ (i : Int) := by omega
    have z4 : (0 : Int) ≤ ((k - i : Nat) : Int) := by omega
    have z5 : ((k - i : Nat) : Int) < (s.length : Int) := by omega
    have hg := Pev.getD_lt h.cb i
    have hx : Lin.xs i (fun i => Gf.gm (t.c.getD i 0) (s.getD (k - i) 0)) < 256 := Lin.xs_lt fun j _ => Gf.gm_lt _ (Pev.getD_lt h.cb j)
    refine Ev.step (fun k => spec_l4Locator.l1.eq_2 _ _ _ _ _ _ _ _ _ _ _ k) ?_
    simp only [Poly.up_length, Poly.rd_up, if_pos z1, if_pos z2, if_pos z3, wrap_sub k i (by omega) (by omega), if_pos z4, if_pos z5, wrap_up i (by omega)]
    refine Ev.bind (spec_l1Mul_ev _ _ hg (hs.get (k - i))) ?_
    rw [xor_up hx (Gf.gm_lt _ hg)]
    exact ih (i + 1) (by omega)
theorem spec_l4Locator_l0 (s : List Nat) (hs : Poly.AllB s) (hl : s.length ≤ 100) : ∀ (d k : Nat) (t : Bm.St), k + d = s.length → Bm.Inv s k t →
    Ev (fun r => spec_l4Locator.l0 r (Poly.up s) (Poly.up t.c) (Poly.up t.b) (t.long : Int) (t.m : Int) (t.last : Int) (s.length : Int) (k : Int)) (Poly.up (Poly.tr (Bm.run s d k t).c)) := by
  intro d
  induction d with
  | zero =>
    intro k t hk h
    obtain rfl : k = s.length := by omega
    have hsz := h.sz
    have z : ¬ ((s.length : Nat) : Int) < ((s.length : Nat) : Int) := by omega
    refine Ev.step (fun k => spec_l4Locator.l0.eq_2 _ _ _ _ _ _ _ _ k) ?_
    simp only [if_neg z]
    exact Ev.bind (spec_l1Cut_ev t.c (by omega)) (Ev.now _)
  | succ d ih =>
    intro k t hk h
    have hlk := h.lk
    have hsz := h.sz
    have hmq := h.mq
    have hkl : k < s.length := by omega
    have z : (k : Int) < (s.length : Int) := by omega
    have ih' := ih (k + 1) (Bm.step s k t) (by omega) (Bm.inv_step hs h)
    have hd : Bm.disc s t k < 256 := Bm.disc_lt h.cb
    refine Ev.step (fun k => spec_l4Locator.l0.eq_2 _ _ _ _ _ _ _ _ k) ?_
    simp only [if_pos z]
    refine spec_l4Locator_l1 s hs hl hkl h ?_ (min (t.long + 1) t.c.length) 0 (by omega)
    refine Ev.step (fun k => spec_l4Locator.j2.eq_2 _ _ _ _ _ _ _ _ _ _ k) ?_
    show Ev _ (Poly.up (Poly.tr (Bm.run s d (k + 1) (Bm.step s k t)).c))
    unfold Bm.step at ih' ⊢
    by_cases e : Bm.disc s t k = 0
    · have z2 : ((Bm.disc s t k : Nat) : Int) = 0 := by omega
      simp only [if_pos e] at ih' ⊢
      simp only [if_pos z2, wrap_up t.m (by omega), wrap_up k (by omega)]
      exact ih'
    · have z2 : ¬ ((Bm.disc s t k : Nat) : Int) = 0 := by omega
      simp only [if_neg e] at ih' ⊢
      simp only [if_neg z2, wrap_up t.m (by omega), wrap_up k (by omega), wrap_two t.long (by omega)]
      refine Ev.bind (spec_l1Div_ev _ _ hd h.lb) ?_
      refine Ev.bind (spec_l4Add_ev _ t.m t.b t.c (Gf.gm_lt _ hd) h.bb (by omega) (by omega) h.cb (by omega)) ?_
      by_cases e2 : 2 * t.long ≤ k
      · have z3 : ((2 * t.long : Nat) : Int) ≤ (k : Int) := by omega
        simp only [if_pos e2] at ih' ⊢
        simp only [if_pos z3, wrap_sub (k + 1) t.long (by omega) (by omega)]
        exact ih'
      · have z3 : ¬ ((2 * t.long : Nat) : Int) ≤ (k : Int) := by omega
        simp only [if_neg e2] at ih' ⊢
        simp only [if_neg z3]
        exact ih'
theorem spec_l4Locator_ev (s : List Nat) (hs : Poly.AllB s) (hl : s.length ≤ 100) : Ev (fun r => spec_l4Locator.f r (Poly.up s)) (Poly.up (Bm.loc s)) := by
  have := spec_l4Locator_l0 s hs hl s.length 0 Bm.st0 (by omega) (Bm.inv0 s)
  unfold spec_l4Locator.f
  rw [Poly.up_length]
  exact this

/-- What EvalGf answers. -/
def evalV (l : List Int) (a : Int) : Int × Bool := if isP l && isB a then (((Poly.gev (l.map Int.toNat) a.toNat : Nat) : Int), true) else (0, false)
theorem toNat_up (m : List Nat) : (Poly.up m).map Int.toNat = m := by
  unfold Poly.up
  rw [List.map_map]
  conv => rhs; rw [← List.map_id m]
  exact List.map_congr_left fun x _ => by simp

/-- What LocatorOf answers. -/
def locV (l : List Int) : List Int × Bool := if decide (l.length = 2 ∨ l.length = 4 ∨ l.length = 6) && l.all isB then (Poly.up (Bm.loc (l.map Int.toNat)), true) else ([], false)
theorem locV_length (l : List Int) : (locV l).1.length ≤ 8 := by
  unfold locV
  split
  · rename_i h
    simp only [Bool.and_eq_true, decide_eq_true_eq] at h
    obtain ⟨m, rfl, hm⟩ := allB_up h.2
    rw [Poly.up_length] at h
    have := Bm.loc_length (s := m) hm
    simp only [Poly.up_length, toNat_up]; omega
  · simp

theorem spec_LocatorOf_ev (l : List Int) (hl : l.length ≤ 1048576) : Ev (fun k => spec_LocatorOf.f k l) (locV l) := by
  unfold spec_LocatorOf.f locV
  simp only [spec_l1In_eq, Option.bind_some]
  by_cases h1 : (2 : Int) ≤ (l.length : Int) ∧ (l.length : Int) ≤ 6
  · simp only [decide_eq_true h1, if_true, and_one (a := l.length) (by omega)]
    by_cases h2 : l.length % 2 = 1
    · have z : ((l.length % 2 : Nat) : Int) = 1 := by omega
      have z2 : ¬ (l.length = 2 ∨ l.length = 4 ∨ l.length = 6) := by omega
      simp only [if_pos z, decide_eq_false z2, Bool.false_and]
      exact Ev.now _
    · have z : ¬ ((l.length % 2 : Nat) : Int) = 1 := by omega
      have z2 : l.length = 2 ∨ l.length = 4 ∨ l.length = 6 := by omega
      simp only [if_neg z, decide_eq_true z2, Bool.true_and]
      refine Ev.bind (spec_l1All_ev l (by omega)) ?_
      cases h : l.all isB
      · exact Ev.now _
      · obtain ⟨m, rfl, hm⟩ := allB_up h
        rw [Poly.up_length] at z2
        simp only [if_true, toNat_up]
        exact Ev.bind (spec_l4Locator_ev m hm (by omega)) (Ev.now _)
  · have z2 : ¬ (l.length = 2 ∨ l.length = 4 ∨ l.length = 6) := by omega
    simp only [decide_eq_false h1, decide_eq_false z2, Bool.false_and]
    exact Ev.now _

theorem laws_toIntS_l0 (l : List Int) (hl : l.length ≤ 1048576) : ∀ d i : Nat, i + d = l.length → Ev (fun k => laws_toIntS.l0 k l (l.take i ++ List.replicate d 0) (i : Int)) l := by
  intro d
  induction d with
  | zero =>
    intro i hi
    obtain rfl : i = l.length := by omega
    exact Ev.step (f := fun _ => some l) (fun k => by simp only [laws_toIntS.l0]; rw [if_neg (by omega)]; simp) (Ev.now _)
  | succ d ih =>
    intro i hi
    have hlt : i < l.length := by omega
    refine Ev.step (f := fun k => laws_toIntS.l0 k l (l.take (i + 1) ++ List.replicate d 0) ((i + 1 : Nat) : Int)) (fun k => ?_) (ih (i + 1) (by omega))
    have e : ((l.take i ++ List.replicate (d + 1) 0).set i l[i]) = l.take (i + 1) ++ List.replicate d 0 := by
      rw [List.set_append_right _ _ (by simp; omega)]
      simp only [List.length_take, Nat.min_eq_left (Nat.le_of_lt hlt), Nat.sub_self, List.replicate_succ, List.set_cons_zero]
      rw [List.take_succ_eq_append_getElem hlt, List.append_assoc]; rfl
    have z : (i : Int) < ((l.take i ++ List.replicate (d + 1) (0 : Int)).length : Int) := by simp only [List.length_append, List.length_take, List.length_replicate]; omega
    simp only [laws_toIntS.l0, rd_nat l i hlt, wrap_succ i (by omega), Int.toNat_natCast]
    rw [if_pos (by omega), if_pos (by omega), if_pos z, e]
theorem laws_toIntS_ev (l : List Int) (hl : l.length ≤ 1048576) : Ev (fun k => laws_toIntS.f k l) l := by
  unfold laws_toIntS.f
  have z1 : (0 : Int) ≤ (l.length : Int) := by omega
  have z2 : (l.length : Int).toNat ≤ 35184372088832 := by omega
  simp only [if_pos z1, if_pos z2]
  have := laws_toIntS_l0 l hl l.length 0 (by omega)
  simpa using this

theorem impl_areGf_eq (l : List Int) : impl_areGf.f l = some (l.all isB) := by
  unfold impl_areGf.f
  have e : impl_areGf.bad = fun n => !isB n := by
    funext n
    simp only [impl_areGf.bad, isB]
  rw [e, List.all_eq_not_any_not]

theorem impl_mul_l0 : ∀ (n a b o : Nat), a < 256 → o < 256 → b < 2 ^ n → b < 2 ^ 63 → Ev (fun k => impl_mul.l0 k (a : Int) (b : Int) (o : Int)) ((Gf.gmA n a b o : Nat) : Int) := by
  have stop : ∀ a o : Nat, Ev (fun k => impl_mul.l0 k (a : Int) ((0 : Nat) : Int) (o : Int)) ((o : Nat) : Int) := fun a o =>
    Ev.step (f := fun _ => some ((o : Nat) : Int)) (fun k => by simp only [impl_mul.l0]; rw [if_neg (by omega)]) (Ev.now _)
  intro n
  induction n with
  | zero =>
    intro a b o ha ho hb _
    obtain rfl : b = 0 := by simpa using hb
    exact stop a o
  | succ n ih =>
    intro a b o ha ho hb hb63
    by_cases h0 : b = 0
    · subst h0
      rw [Gf.gmA_zero]
      exact stop a o
    · have e1 : wrap64 ((a : Int) * 2) = ((a * 2 : Nat) : Int) := by rw [wrap_id (by omega) (by omega)]; omega
      have e2 : Go.bits .xor .i64 ((a * 2 : Nat) : Int) 285 = (((a * 2) ^^^ 285 : Nat) : Int) := xor_nat (a := a * 2) (b := 285) (by omega) (by decide)
      have e3 : Go.bits .xor .i64 (o : Int) (a : Int) = ((o ^^^ a : Nat) : Int) := xor_nat (by omega) (by omega)
      have e4 := and_one (a := b) hb63
      refine Ev.step (f := fun k => impl_mul.l0 k ((Gf.xt a : Nat) : Int) ((b / 2 : Nat) : Int) (((if b % 2 = 1 then o ^^^ a else o) : Nat) : Int)) (fun k => ?_) (ih _ _ _ (Gf.xt_lt a ha) ?_ (by rw [Nat.pow_succ] at hb; omega) (by omega))
      · simp only [impl_mul.l0, e1, e2, e3, e4, half_nat, Gf.xt]
        rw [if_pos (show (b : Int) > 0 by omega)]
        by_cases h1 : b % 2 = 1 <;> by_cases h2 : 255 < a * 2
        · rw [if_pos (show ((b % 2 : Nat) : Int) = 1 by omega), if_pos h1, if_pos (by omega), if_pos h2]
        · rw [if_pos (show ((b % 2 : Nat) : Int) = 1 by omega), if_pos h1, if_neg (by omega), if_neg h2]
        · rw [if_neg (show ¬ ((b % 2 : Nat) : Int) = 1 by omega), if_neg h1, if_pos (by omega), if_pos h2]
        · rw [if_neg (show ¬ ((b % 2 : Nat) : Int) = 1 by omega), if_neg h1, if_neg (by omega), if_neg h2]
      · split
        · exact Gf.xor_byte ho ha
        · exact ho
theorem impl_mul_ev (a b : Nat) (ha : a < 256) (hb : b < 256) : Ev (fun k => impl_mul.f k (a : Int) (b : Int)) ((Gf.gm a b : Nat) : Int) :=
  impl_mul_l0 8 a b 0 ha (by decide) hb (by omega)

theorem impl_pow_l0 : ∀ (f a n o : Nat), a < 256 → o < 256 → n < 2 ^ f → n < 2 ^ 63 → Ev (fun k => impl_pow.l0 k (a : Int) (n : Int) (o : Int)) ((Gf.pwA f a n o : Nat) : Int) := by
  have stop : ∀ a o : Nat, Ev (fun k => impl_pow.l0 k (a : Int) ((0 : Nat) : Int) (o : Int)) ((o : Nat) : Int) := fun a o =>
    Ev.step (f := fun _ => some ((o : Nat) : Int)) (fun k => by simp only [impl_pow.l0]; rw [if_neg (by omega)]) (Ev.now _)
  have z : ∀ f a o, Gf.pwA f a 0 o = o := by
    intro f
    induction f with
    | zero => intro a o; rfl
    | succ f ih => intro a o; exact ih _ _
  intro f
  induction f with
  | zero =>
    intro a n o ha ho hn _
    obtain rfl : n = 0 := by simpa using hn
    exact stop a o
  | succ f ih =>
    intro a n o ha ho hn hn63
    by_cases h0 : n = 0
    · subst h0
      rw [z]
      exact stop a o
    · have e4 := and_one (a := n) hn63
      have hsq := Gf.gm_lt a ha
      by_cases h1 : n % 2 = 1
      · refine Ev.step (f := fun k => (impl_mul.f k (o : Int) (a : Int)).bind fun t => (impl_mul.f k (a : Int) (a : Int)).bind fun u => impl_pow.l0 k u ((n / 2 : Nat) : Int) t) (fun k => ?_) ?_
        · simp only [impl_pow.l0, e4, half_nat]
          rw [if_pos (show (n : Int) > 0 by omega), if_pos (show ((n % 2 : Nat) : Int) = 1 by omega)]
        · have := ih (Gf.gm a a) (n / 2) (Gf.gm o a) hsq (Gf.gm_lt a ho) (by rw [Nat.pow_succ] at hn; omega) (by omega)
          show Ev _ ((Gf.pwA f (Gf.gm a a) (n / 2) (if n % 2 = 1 then Gf.gm o a else o) : Nat) : Int)
          rw [if_pos h1]
          exact Ev.bind (f := fun k t => (impl_mul.f k (a : Int) (a : Int)).bind fun u => impl_pow.l0 k u ((n / 2 : Nat) : Int) t) (impl_mul_ev o a ho ha) (Ev.bind (f := fun k u => impl_pow.l0 k u ((n / 2 : Nat) : Int) ((Gf.gm o a : Nat) : Int)) (impl_mul_ev a a ha ha) this)
      · refine Ev.step (f := fun k => (impl_mul.f k (a : Int) (a : Int)).bind fun u => impl_pow.l0 k u ((n / 2 : Nat) : Int) (o : Int)) (fun k => ?_) ?_
        · simp only [impl_pow.l0, e4, half_nat]
          rw [if_pos (show (n : Int) > 0 by omega), if_neg (show ¬ ((n % 2 : Nat) : Int) = 1 by omega)]
        · have := ih (Gf.gm a a) (n / 2) o hsq ho (by rw [Nat.pow_succ] at hn; omega) (by omega)
          show Ev _ ((Gf.pwA f (Gf.gm a a) (n / 2) (if n % 2 = 1 then Gf.gm o a else o) : Nat) : Int)
          rw [if_neg h1]
          exact Ev.bind (f := fun k u => impl_pow.l0 k u ((n / 2 : Nat) : Int) (o : Int)) (impl_mul_ev a a ha ha) this
theorem impl_pow_ev (a n : Nat) (ha : a < 256) (hn : n < 2 ^ 62) : Ev (fun k => impl_pow.f k (a : Int) (n : Int)) ((Gf.pw a n : Nat) : Int) := by
  have := impl_pow_l0 62 a n 1 ha (by decide) hn (by omega)
  rw [Gf.pwA_eq 62 a n 1 ha (by decide) hn, Gf.one_gm _ (Gf.pw_lt n)] at this
  exact this

theorem impl_inverse_ev (b : Nat) (hb : b < 256) : Ev (fun k => impl_inverse.f k (b : Int)) ((Gf.gi b : Nat) : Int) := by
  unfold impl_inverse.f
  exact Ev.bind (f := fun _ u => some u) (impl_pow_ev b 254 hb (by decide)) (Ev.now _)



theorem impl_trimmed_l0 (l : List Nat) (hl : l.length ≤ 1000000) : ∀ n, n ≤ l.length → Ev (fun k => impl_trimmed.l0 k (Poly.up l) (n : Int)) (Poly.up (Poly.trN l n)) := by
  intro n
  induction n with
  | zero =>
    intro _
    refine Ev.step (f := fun _ => some (Poly.up (Poly.trN l 0))) (fun k => ?_) (Ev.now _)
    simp only [impl_trimmed.l0, Poly.up_length]
    rw [if_neg (by omega), if_pos (by omega), if_pos (by omega)]
    rfl
  | succ n ih =>
    intro hn
    have hw : wrap64 (((n + 1 : Nat) : Int) - 1) = (n : Int) := by rw [wrap_pred _ (by omega) (by omega)]; rfl
    unfold Poly.trN
    by_cases h : l.getD n 0 = 0
    · rw [if_pos h]
      refine Ev.step (f := fun k => impl_trimmed.l0 k (Poly.up l) (n : Int)) (fun k => ?_) (ih (by omega))
      simp only [impl_trimmed.l0, Poly.up_length, hw, Poly.rd_up, h]
      rw [if_pos (by omega), if_pos (by omega), if_pos (by omega), if_pos (by omega)]
    · rw [if_neg h]
      refine Ev.step (f := fun _ => some (Poly.up (l.take (n + 1)))) (fun k => ?_) (Ev.now _)
      simp only [impl_trimmed.l0, Poly.up_length, hw, Poly.rd_up]
      rw [if_pos (by omega), if_pos (by omega), if_pos (by omega), if_neg (by omega), if_pos (by omega), if_pos (by omega), Int.toNat_natCast, Poly.up_take]
theorem impl_trimmed_ev (l : List Nat) (hl : l.length ≤ 1000000) : Ev (fun k => impl_trimmed.f k (Poly.up l)) (Poly.up (Poly.tr l)) := by
  have := impl_trimmed_l0 l hl l.length (Nat.le_refl _)
  unfold impl_trimmed.f
  rw [Poly.up_length]
  exact this

/-- The loop over the terms of a discrepancy. -/
theorem impl_locator_l1 (s : List Nat) (hs : Poly.AllB s) (hl : s.length ≤ 100) {k : Nat} (hk : k < s.length) {t : Bm.St} (h : Bm.Inv s k t) {R : List Int} (hj : Ev (fun r => impl_locator.j2 r (Poly.up s) (Poly.up t.c) (Poly.up t.b) (t.long : Int) (t.m : Int) (t.last : Int) (k : Int) ((Bm.disc s t k : Nat) : Int) (s.length : Int) (k : Int)) R) :
    ∀ d i : Nat, i + d = min (t.long + 1) t.c.length → Ev (fun r => impl_locator.l1 r (Poly.up s) (Poly.up t.c) (Poly.up t.b) (t.long : Int) (t.m : Int) (t.last : Int) (k : Int) ((Lin.xs i (fun i => Gf.gm (t.c.getD i 0) (s.getD (k - i) 0)) : Nat) : Int) (i : Int) (s.length : Int) (k : Int)) R := by
  have hlk := h.lk
  have hsz := h.sz
  intro d
  induction d with
  | zero =>
    intro i hi
    obtain rfl : i = min (t.long + 1) t.c.length := by omega
    refine Ev.step (fun k => impl_locator.l1.eq_2 _ _ _ _ _ _ _ _ _ _ _ k) ?_
    by_cases h1 : min (t.long + 1) t.c.length ≤ t.long
    · have z1 : ((min (t.long + 1) t.c.length : Nat) : Int) ≤ (t.long : Int) := by omega
      have z2 : ¬ ((min (t.long + 1) t.c.length : Nat) : Int) < (t.c.length : Int) := by omega
      simp only [Poly.up_length, if_pos z1, if_neg z2]
      exact hj
    · have z1 : ¬ ((min (t.long + 1) t.c.length : Nat) : Int) ≤ (t.long : Int) := by omega
      simp only [if_neg z1]
      exact hj
  | succ d ih =>
    intro i hi
    have z1 : (i : Int) ≤ (t.long : Int) := by omega
    have z2 : (i : Int) < (t.c.length : Int) := by omega
    have z3 : (0 : Int) ≤ (i : Int) := by omega
    have z4 : (0 : Int) ≤ ((k - i : Nat) : Int) := by omega
    have z5 : ((k - i : Nat) : Int) < (s.length : Int) := by omega
    have hg := Pev.getD_lt h.cb i
    have hx : Lin.xs i (fun i => Gf.gm (t.c.getD i 0) (s.getD (k - i) 0)) < 256 := Lin.xs_lt fun j _ => Gf.gm_lt _ (Pev.getD_lt h.cb j)
    refine Ev.step (fun k => impl_locator.l1.eq_2 _ _ _ _ _ _ _ _ _ _ _ k) ?_
    simp only [Poly.up_length, Poly.rd_up, if_pos z1, if_pos z2, if_pos z3, wrap_sub k i (by omega) (by omega), if_pos z4, if_pos z5, wrap_up i (by omega)]
    refine Ev.bind (impl_mul_ev _ _ hg (hs.get (k - i))) ?_
    rw [xor_up hx (Gf.gm_lt _ hg)]
    exact ih (i + 1) (by omega)
/-- The loop that adds. -/
theorem impl_locator_l2 (s : List Nat) (k dd f : Nat) (t : Bm.St) (hf : f < 256) (hb : Poly.AllB t.b) (hm : t.m ≤ 1000) (hbl : t.b.length ≤ 1000) {R : List Int} : ∀ (d j : Nat) (out : List Nat), j + d = t.b.length → Poly.AllB out → t.m + t.b.length ≤ out.length → out.length ≤ 5000 →
    (∀ o2, o2 = Poly.mrow f (t.b.drop j) (t.m + j) out → Ev (fun r => impl_locator.l2 r (Poly.up s) (Poly.up t.c) (Poly.up t.b) (t.long : Int) (t.m : Int) (t.last : Int) (k : Int) (dd : Int) (f : Int) (Poly.up o2) (s.length : Int) (k : Int) (Poly.up t.b) (t.b.length : Int) (t.b.length : Int)) R) →
    Ev (fun r => impl_locator.l2 r (Poly.up s) (Poly.up t.c) (Poly.up t.b) (t.long : Int) (t.m : Int) (t.last : Int) (k : Int) (dd : Int) (f : Int) (Poly.up out) (s.length : Int) (k : Int) (Poly.up t.b) (t.b.length : Int) (j : Int)) R := by
  intro d
  induction d with
  | zero =>
    intro j out hj ho hl hl2 hend
    obtain rfl : j = t.b.length := by omega
    exact hend out (by rw [List.drop_length]; rfl)
  | succ d ih =>
    intro j out hj ho hl hl2 hend
    have hjl : j < t.b.length := by omega
    have z1 : (j : Int) < (t.b.length : Int) := by omega
    have z2 : (0 : Int) ≤ (j : Int) := by omega
    have z3 : (0 : Int) ≤ ((j + t.m : Nat) : Int) := by omega
    have z4 : ((j + t.m : Nat) : Int) < (out.length : Int) := by omega
    have hx := xor_up (ho.get (j + t.m)) (Gf.gm_lt (t.b.getD j 0) hf)
    refine Ev.step (fun k => impl_locator.l2.eq_2 _ _ _ _ _ _ _ _ _ _ _ _ _ _ _ k) ?_
    simp only [Poly.rd_up, Poly.up_length, if_pos z1, if_pos z2, wrap_addn j t.m (by omega), if_pos z3, if_pos z4, wrap_up j (by omega), Int.toNat_natCast]
    refine Ev.bind (impl_mul_ev f (t.b.getD j 0) hf (hb.get j)) ?_
    simp only [hx, Poly.up_set]
    refine ih (j + 1) (out.set (j + t.m) (out.getD (j + t.m) 0 ^^^ Gf.gm f (t.b.getD j 0))) (by omega) (ho.set _ (Gf.xor_byte (ho.get _) (Gf.gm_lt _ hf))) (by rw [List.length_set]; exact hl) (by rw [List.length_set]; exact hl2) fun o2 h2 => hend o2 ?_
    rw [h2, drop_getD t.b j hjl, show t.m + (j + 1) = t.m + j + 1 by omega, Nat.add_comm j t.m]
    rfl
theorem impl_locator_l0 (s : List Nat) (hs : Poly.AllB s) (hl : s.length ≤ 100) : ∀ (d k : Nat) (t : Bm.St), k + d = s.length → Bm.Inv s k t →
    Ev (fun r => impl_locator.l0 r (Poly.up s) (Poly.up t.c) (Poly.up t.b) (t.long : Int) (t.m : Int) (t.last : Int) (s.length : Int) (k : Int)) (Poly.up (Poly.tr (Bm.run s d k t).c)) := by
  intro d
  induction d with
  | zero =>
    intro k t hk h
    obtain rfl : k = s.length := by omega
    have hsz := h.sz
    have z : ¬ ((s.length : Nat) : Int) < ((s.length : Nat) : Int) := by omega
    refine Ev.step (fun k => impl_locator.l0.eq_2 _ _ _ _ _ _ _ _ k) ?_
    simp only [if_neg z]
    exact Ev.bind (impl_trimmed_ev t.c (by omega)) (Ev.now _)
  | succ d ih =>
    intro k t hk h
    have hlk := h.lk
    have hsz := h.sz
    have hmq := h.mq
    have hkl : k < s.length := by omega
    have z : (k : Int) < (s.length : Int) := by omega
    have ih' := ih (k + 1) (Bm.step s k t) (by omega) (Bm.inv_step hs h)
    have hd : Bm.disc s t k < 256 := Bm.disc_lt h.cb
    refine Ev.step (fun k => impl_locator.l0.eq_2 _ _ _ _ _ _ _ _ k) ?_
    simp only [if_pos z]
    refine impl_locator_l1 s hs hl hkl h ?_ (min (t.long + 1) t.c.length) 0 (by omega)
    refine Ev.step (fun k => impl_locator.j2.eq_2 _ _ _ _ _ _ _ _ _ _ k) ?_
    show Ev _ (Poly.up (Poly.tr (Bm.run s d (k + 1) (Bm.step s k t)).c))
    unfold Bm.step at ih' ⊢
    by_cases e : Bm.disc s t k = 0
    · have z2 : ((Bm.disc s t k : Nat) : Int) = 0 := by omega
      simp only [if_pos e] at ih' ⊢
      simp only [if_pos z2, wrap_up t.m (by omega), wrap_up k (by omega)]
      exact ih'
    · have z2 : ¬ ((Bm.disc s t k : Nat) : Int) = 0 := by omega
      simp only [if_neg e] at ih' ⊢
      simp only [if_neg z2]
      refine Ev.bind (impl_inverse_ev t.last h.lb) ?_
      refine Ev.bind (impl_mul_ev _ _ hd (Gf.gi_lt _)) ?_
      have e0 : mx 0 (wrap64 (wrap64 ((t.m : Int) + (t.b.length : Int)) - (t.c.length : Int))) = ((t.m + t.b.length - t.c.length : Nat) : Int) := by
        rw [wrap_addn t.m t.b.length (by omega), wrap_id (by omega) (by omega)]
        unfold mx
        split <;> omega
      have z3 : (0 : Int) ≤ ((t.m + t.b.length - t.c.length : Nat) : Int) := by omega
      have z4 : t.c.length + ((t.m + t.b.length - t.c.length : Nat) : Int).toNat < 17592186044416 := by rw [Int.toNat_natCast]; omega
      have z7 : (Poly.up t.c).length < 17592186044416 := by rw [Poly.up_length]; omega
      have hcl : slices_Clone_int_int.f (Poly.up t.c) = some (Poly.up t.c) := by
        unfold slices_Clone_int_int.f
        exact if_pos z7
      refine Ev.congr (f := fun r => impl_locator.l2 r (Poly.up s) (Poly.up t.c) (Poly.up t.b) (t.long : Int) (t.m : Int) (t.last : Int) (k : Int) ((Bm.disc s t k : Nat) : Int) ((Gf.gm (Bm.disc s t k) (Gf.gi t.last) : Nat) : Int) (Poly.up (t.c ++ List.replicate (t.m + t.b.length - t.c.length) 0)) (s.length : Int) (k : Int) (Poly.up t.b) (t.b.length : Int) ((0 : Nat) : Int)) (fun r => ?_) ?_
      · rw [hcl, Option.bind_some, Poly.up_length t.b, Poly.up_length t.c, e0, if_pos z3, if_pos z4, Int.toNat_natCast, Poly.up_zeros, Poly.up_append]; rfl
      refine impl_locator_l2 s k (Bm.disc s t k) (Gf.gm (Bm.disc s t k) (Gf.gi t.last)) t (Gf.gm_lt _ hd) h.bb (by omega) (by omega) t.b.length 0 _ (by omega) (Poly.AllB.append h.cb (Poly.AllB.zeros _)) (by rw [List.length_append, List.length_replicate]; omega) (by rw [List.length_append, List.length_replicate]; omega) fun o2 ho2 => ?_
      rw [List.drop_zero, Nat.add_zero] at ho2
      have ho3 : o2 = Bm.upd t.c t.b (Gf.gm (Bm.disc s t k) (Gf.gi t.last)) t.m := ho2
      rw [← ho3] at ih' ⊢
      have z8 : ¬ ((t.b.length : Nat) : Int) < ((t.b.length : Nat) : Int) := by omega
      refine Ev.step (fun k => impl_locator.l2.eq_2 _ _ _ _ _ _ _ _ _ _ _ _ _ _ _ k) ?_
      simp only [if_neg z8, wrap_up t.m (by omega), wrap_up k (by omega), wrap_two t.long (by omega)]
      by_cases e2 : 2 * t.long ≤ k
      · have z9 : ((2 * t.long : Nat) : Int) ≤ (k : Int) := by omega
        simp only [if_pos e2] at ih' ⊢
        simp only [if_pos z9, wrap_sub (k + 1) t.long (by omega) (by omega)]
        exact ih'
      · have z9 : ¬ ((2 * t.long : Nat) : Int) ≤ (k : Int) := by omega
        simp only [if_neg e2] at ih' ⊢
        simp only [if_neg z9]
        exact ih'
theorem impl_locator_ev (s : List Nat) (hs : Poly.AllB s) (hl : s.length ≤ 100) : Ev (fun r => impl_locator.f r (Poly.up s)) (Poly.up (Bm.loc s)) := by
  have := impl_locator_l0 s hs hl s.length 0 Bm.st0 (by omega) (Bm.inv0 s)
  unfold impl_locator.f
  rw [Poly.up_length]
  exact this

theorem impl_LocatorOf_ev (l : List Int) : Ev (fun k => impl_LocatorOf.f k l) (locV l) := by
  have go : (l.length = 2 ∨ l.length = 4 ∨ l.length = 6) → Ev (fun k => if l.all isB = true then ((impl_locator.f k l).bind fun t => some (t, true)) else some (([] : List Int), false)) (if l.all isB = true then (Poly.up (Bm.loc (l.map Int.toNat)), true) else ([], false)) := by
    intro z2
    cases h : l.all isB
    · exact Ev.now _
    · obtain ⟨m, rfl, hm⟩ := allB_up h
      rw [Poly.up_length] at z2
      simp only [if_true, toNat_up]
      exact Ev.bind (impl_locator_ev m hm (by omega)) (Ev.now _)
  unfold impl_LocatorOf.f locV
  simp only [impl_areGf_eq, Option.bind_some]
  by_cases h2 : l.length = 2
  · have z : (l.length : Int) = 2 := by omega
    simp only [if_pos z, decide_eq_true (.inl h2 : l.length = 2 ∨ l.length = 4 ∨ l.length = 6), Bool.true_and]
    exact go (.inl h2)
  · have z : ¬ (l.length : Int) = 2 := by omega
    by_cases h4 : l.length = 4
    · have z4 : (l.length : Int) = 4 := by omega
      simp only [if_neg z, if_pos z4, decide_eq_true (.inr (.inl h4) : l.length = 2 ∨ l.length = 4 ∨ l.length = 6), Bool.true_and]
      exact go (.inr (.inl h4))
    · have z4 : ¬ (l.length : Int) = 4 := by omega
      by_cases h6 : l.length = 6
      · have z6 : (l.length : Int) = 6 := by omega
        simp only [if_neg z, if_neg z4, if_pos z6, decide_eq_true (.inr (.inr h6) : l.length = 2 ∨ l.length = 4 ∨ l.length = 6), Bool.true_and]
        exact go (.inr (.inr h6))
      · have z6 : ¬ (l.length : Int) = 6 := by omega
        have z2 : ¬ (l.length = 2 ∨ l.length = 4 ∨ l.length = 6) := by omega
        simp only [if_neg z, if_neg z4, if_neg z6, decide_eq_false z2, Bool.false_and]
        exact Ev.now _

theorem laws_eqIntS_l0 (l m : List Int) (hlm : l.length = m.length) (hl : l.length ≤ 140737488351232) : ∀ d i : Nat, i + d = l.length → Ev (fun k => laws_eqIntS.l0 k l m (i : Int)) (decide (l.drop i = m.drop i)) := by
  intro d
  induction d with
  | zero =>
    intro i hi
    obtain rfl : i = l.length := by omega
    have e : decide (l.drop l.length = m.drop l.length) = true := by
      have e2 : m.drop l.length = [] := by rw [hlm, List.drop_length]
      rw [e2, List.drop_length]; rfl
    rw [e]
    exact Ev.step (f := fun _ => some true) (fun k => by simp only [laws_eqIntS.l0]; rw [if_neg (by omega)]) (Ev.now _)
  | succ d ih =>
    intro i hi
    have hlt : i < l.length := by omega
    have hlt2 : i < m.length := by omega
    rw [List.drop_eq_getElem_cons hlt, List.drop_eq_getElem_cons hlt2]
    by_cases e : l[i] = m[i]
    · have : decide (l[i] :: l.drop (i + 1) = m[i] :: m.drop (i + 1)) = decide (l.drop (i + 1) = m.drop (i + 1)) := by simp only [List.cons.injEq, e, true_and]
      rw [this]
      refine Ev.step (f := fun k => laws_eqIntS.l0 k l m ((i + 1 : Nat) : Int)) (fun k => ?_) (ih (i + 1) (by omega))
      simp only [laws_eqIntS.l0, rd_nat l i hlt, rd_nat m i hlt2, wrap_succ i (by omega)]
      rw [if_pos (by omega), if_pos (by omega), if_pos (by omega), if_pos e]
    · have : decide (l[i] :: l.drop (i + 1) = m[i] :: m.drop (i + 1)) = false := by simp only [List.cons.injEq, e, false_and, decide_false]
      rw [this]
      refine Ev.step (f := fun k => some false) (fun k => ?_) (Ev.now _)
      simp only [laws_eqIntS.l0, rd_nat l i hlt, rd_nat m i hlt2, wrap_succ i (by omega)]
      rw [if_pos (by omega), if_pos (by omega), if_pos (by omega), if_neg e]
theorem laws_eqIntS_ev (l m : List Int) (hl : l.length ≤ 140737488351232) : Ev (fun k => laws_eqIntS.f k l m) (decide (l = m)) := by
  unfold laws_eqIntS.f
  by_cases h : l.length = m.length
  · simp only [if_pos (show (l.length : Int) = (m.length : Int) by omega)]
    exact laws_eqIntS_l0 l m h hl l.length 0 (by omega)
  · simp only [if_neg (show ¬ (l.length : Int) = (m.length : Int) by omega)]
    have : decide (l = m) = false := by simp only [decide_eq_false_iff_not]; rintro rfl; exact h rfl
    rw [this]
    exact Ev.now _

/-- The numbers m, m + 1, .., n of them. -/
def marks (m n : Nat) : List Int := (List.range n).map fun j => ((m + j : Nat) : Int)
theorem marks_length (m n : Nat) : (marks m n).length = n := by simp [marks]
theorem marks_succ (m n : Nat) : marks m (n + 1) = marks m n ++ [((m + n : Nat) : Int)] := by simp [marks, List.range_succ]
theorem marks_get (m n i : Nat) (h : i < (marks m n).length) : (marks m n)[i] = ((m + i : Nat) : Int) := by simp [marks]

theorem laws_markIntS_l0 (l : List Int) (m : Nat) (hl : l.length ≤ 1048576) (hm : m ≤ 1000000000) : ∀ d i : Nat, i + d = l.length → Ev (fun k => laws_markIntS.l0 k (marks m i ++ l.drop i) ((m + i : Nat) : Int) (i : Int)) (((m + l.length : Nat) : Int), marks m l.length) := by
  intro d
  induction d with
  | zero =>
    intro i hi
    obtain rfl : i = l.length := by omega
    refine Ev.step (f := fun _ => some (((m + l.length : Nat) : Int), marks m l.length)) (fun k => ?_) (Ev.now _)
    simp only [laws_markIntS.l0, List.drop_length, List.append_nil, marks_length]
    rw [if_neg (by omega)]
  | succ d ih =>
    intro i hi
    have hlt : i < l.length := by omega
    refine Ev.step (f := fun k => laws_markIntS.l0 k (marks m (i + 1) ++ l.drop (i + 1)) ((m + (i + 1) : Nat) : Int) ((i + 1 : Nat) : Int)) (fun k => ?_) (ih (i + 1) (by omega))
    have e : (marks m i ++ l.drop i).set i ((m + i : Nat) : Int) = marks m (i + 1) ++ l.drop (i + 1) := by
      rw [List.set_append_right _ _ (by rw [marks_length]; omega), marks_length, Nat.sub_self, List.drop_eq_getElem_cons hlt, List.set_cons_zero, marks_succ, List.append_assoc]
      rfl
    have hlen : (marks m i ++ l.drop i).length = l.length := by rw [List.length_append, marks_length, List.length_drop]; omega
    have e2 : wrap64 (((m + i : Nat) : Int) + 1) = ((m + (i + 1) : Nat) : Int) := by rw [wrap_id (by omega) (by omega)]; omega
    simp only [laws_markIntS.l0, hlen, Int.toNat_natCast, e, e2, wrap_succ i (by omega)]
    rw [if_pos (by omega), if_pos (by omega)]
theorem laws_markIntS_ev (l : List Int) (m : Nat) (hl : l.length ≤ 1048576) (hm : m ≤ 1000000000) : Ev (fun k => laws_markIntS.f k l (m : Int)) (((m + l.length : Nat) : Int), marks m l.length) := by
  have := laws_markIntS_l0 l m hl hm l.length 0 (by omega)
  simp only [marks, List.range_zero, List.map_nil, List.nil_append, List.drop_zero, Nat.add_zero] at this
  exact this

theorem laws_heldIntS_l0 (m n : Nat) (h : m + n ≤ 2000000000) : ∀ d i : Nat, i + d = n → Ev (fun k => laws_heldIntS.l0 k (marks m n) ((m + i : Nat) : Int) (i : Int)) ((m + n : Nat) : Int) := by
  intro d
  induction d with
  | zero =>
    intro i hi
    obtain rfl : i = n := by omega
    refine Ev.step (f := fun _ => some ((m + i : Nat) : Int)) (fun k => ?_) (Ev.now _)
    simp only [laws_heldIntS.l0, marks_length]
    rw [if_neg (by omega)]
  | succ d ih =>
    intro i hi
    refine Ev.step (f := fun k => laws_heldIntS.l0 k (marks m n) ((m + (i + 1) : Nat) : Int) ((i + 1 : Nat) : Int)) (fun k => ?_) (ih (i + 1) (by omega))
    have hlt : i < (marks m n).length := by rw [marks_length]; omega
    have e2 : wrap64 (((m + i : Nat) : Int) + 1) = ((m + (i + 1) : Nat) : Int) := by rw [wrap_id (by omega) (by omega)]; omega
    simp only [laws_heldIntS.l0, rd_nat _ i hlt, marks_get, marks_length, e2, wrap_succ i (by omega)]
    rw [if_pos (by omega), if_pos (by omega)]
    simp
theorem laws_heldIntS_ev (m n : Nat) (h : m + n ≤ 2000000000) : Ev (fun k => laws_heldIntS.f k (marks m n) (m : Int)) ((m + n : Nat) : Int) := laws_heldIntS_l0 m n h n 0 (by omega)

theorem nat_nn (n : Nat) : ((n : Int) < 0) = False := by simp
theorem one_nat : (1 : Int) = ((1 : Nat) : Int) := rfl
theorem one_nn (n : Nat) : (((n : Nat) : Int) = ((n : Nat) : Int)) = True := by simp

theorem FnExactLocatorOf : laws_FnExactLocatorOf.Pure := by
  intro a _ _ _
  by_cases ha : (a.length : Int) > 1048576
  · exact ⟨0, by unfold laws_FnExactLocatorOf.f; rw [if_pos ha]⟩
  have ha' : a.length ≤ 1048576 := by omega
  have hg := locV_length a
  have E1 := laws_toIntS_ev a (by omega)
  have E3 := spec_LocatorOf_ev a (by omega)
  have E4 := impl_LocatorOf_ev a
  generalize locV a = g at E3 E4 hg
  obtain ⟨g, ok⟩ := g
  have hg' : g.length ≤ 8 := hg
  have E5 := laws_eqIntS_ev a a (by omega)
  have E7 := laws_eqIntS_ev g g (by omega)
  have E8 := laws_markIntS_ev a 1 (by omega) (by omega)
  have E10 := laws_markIntS_ev g 1 (by omega) (by omega)
  have E11 := laws_heldIntS_ev 1 g.length (by omega)
  rw [← one_nat] at E8 E10 E11
  refine Ev.rounds ?_
  unfold laws_FnExactLocatorOf.f
  simp only [if_neg ha]
  repeat' first
    | exact Ev.now _
    | refine Ev.bind (by assumption) ?_
    | refine Ev.step (fun k => laws_FnExactLocatorOf.j0.eq_2 _ _ _ _ _ _ _ k) ?_
    | refine Ev.step (fun k => laws_FnExactLocatorOf.j1.eq_2 _ _ _ _ _ k) ?_
    | refine Ev.step (fun k => laws_FnExactLocatorOf.j2.eq_2 _ _ _ k) ?_
    | simp only [decide_true, decide_false, if_true, if_false, bne_self_eq_false, Bool.false_eq_true, Bool.not_true, Bool.not_false, Bool.and_true, Bool.and_self, nat_nn, Option.bind_some, beq_self_eq_true, one_nn]

end Go.Proofs.Ytncgojfhaagkkaa.Pure
