/- Locators begin with 1, syndromes are 0 for words alone, and another message's word differs in more than twice as many places as can be wrong: the walk of the law. No conditions beyond the row's own. -/
import Derived.Test.YtldlldfoaicjcaaMFnLocatorsx12
import Derived.Test.YtldlldfoaicjcaaMFnLocatorsx0
import Derived.Test.YtldlldfoaicjcaaMFnLocatorsx1
import Derived.Test.YtldlldfoaicjcaaMFnLocatorsx2
import Derived.Test.YtldlldfoaicjcaaMFnLocatorsx3
import Derived.Test.YtldlldfoaicjcaaMFnLocatorsx4
import Derived.Test.YtldlldfoaicjcaaMFnLocatorsx5
import Derived.Test.YtldlldfoaicjcaaMFnLocatorsx6
import Derived.Test.YtldlldfoaicjcaaMFnLocatorsx7
import Derived.Test.YtldlldfoaicjcaaMFnLocatorsx8
import Derived.Test.YtldlldfoaicjcaaMFnLocatorsx9
import Derived.Test.YtldlldfoaicjcaaMFnLocatorsx10
import Derived.Test.YtldlldfoaicjcaaMFnLocatorsx11
import Derived.Test.YtldlldfoaicjcaaBit
import Derived.Test.YtldlldfoaicjcaaPoly
import Derived.Test.YtldlldfoaicjcaaLin
import Derived.Test.YtldlldfoaicjcaaRoot
import Derived.Test.YtldlldfoaicjcaaPev
import Derived.Test.YtldlldfoaicjcaaBm
import Derived.Test.YtldlldfoaicjcaaEnc
set_option linter.unusedVariables false
set_option linter.unusedSimpArgs false
namespace Go.Proofs.Ytldlldfoaicjcaa.Pure
open Go.RowKit Go.Proofs.Ytldlldfoaicjcaa Go.Proofs.Ytldlldfoaicjcaa.MFnLocators Go.Proofs.YtldlldfoaicjcaaW.PrintWords Go.Proofs.YtldlldfoaicjcaaW.PrintLast Go.Proofs.Ytldlldfoaicjcaa.Bit

theorem impl_within_eq (a b c : Int) : impl_within.f a b c = some (decide (b ≤ a ∧ a ≤ c)) := by
  unfold impl_within.f
  by_cases h : a ≥ b
  · rw [if_pos h]; congr 1; simp [show b ≤ a from h]
  · rw [if_neg h]; congr 1; simp; omega

/-- Is a number an element? -/
def isB (a : Int) : Bool := decide (0 ≤ a ∧ a ≤ 255)
theorem isB_nat {a : Int} (h : isB a = true) : ∃ n : Nat, a = (n : Int) ∧ n < 256 := by
  simp only [isB, decide_eq_true_eq] at h
  exact ⟨a.toNat, by omega, by omega⟩
theorem isB_cast {n : Nat} (h : n < 256) : isB (n : Int) = true := by simp only [isB, decide_eq_true_eq]; omega

theorem impl_isGf_eq (a : Int) : impl_isGf.f a = some (isB a) := by
  unfold impl_isGf.f; rw [impl_within_eq]; rfl

theorem rd_nat (l : List Int) (i : Nat) (h : i < l.length) : rd l (i : Int) = l[i] := by
  unfold rd
  simp [List.getD_eq_getElem?_getD, List.getElem?_eq_getElem h]
theorem wrap_succ (i : Nat) (h : i < 9223372036854775807) : wrap64 ((i : Int) + 1) = ((i + 1 : Nat) : Int) := by rw [wrap_id (by omega) (by omega)]; omega

theorem and_255 (x : Int) : 0 ≤ Go.bits .and .u64 x 255 ∧ Go.bits .and .u64 x 255 ≤ 255 := by
  have h : Go.bits .and .u64 x 255 = IntKind.u64.wrap ((BitVec.ofInt 64 x &&& BitVec.ofInt 64 255).toNat : Int) := rfl
  rw [h, BitVec.toNat_and]
  have h2 : (BitVec.ofInt 64 255).toNat = 255 := by decide
  rw [h2]
  have h3 : (BitVec.ofInt 64 x).toNat &&& 255 ≤ 255 := Nat.and_le_right
  rw [IntKind.wrap_u64]
  omega
theorem wrap_in {n : Int} (h0 : -1000000000000000 ≤ n) (h1 : n ≤ 1000000000000000) : wrap64 n = n := wrap_id (by omega) (by omega)
theorem tmod_in (x n : Int) (hx : 0 ≤ x) (hn : 0 < n) : 0 ≤ Int.tmod x n ∧ Int.tmod x n < n ∧ Int.tmod x n ≤ x := by
  obtain ⟨a, rfl⟩ := nat_of hx
  obtain ⟨b, rfl⟩ := nat_of (a := n) (by omega)
  have e : Int.tmod (a : Int) (b : Int) = ((a % b : Nat) : Int) := rfl
  rw [e]
  have := Nat.mod_lt a (show b > 0 by omega)
  have := Nat.mod_le a b
  omega
/-- The bytes that are drawn from. -/
def BY (s : List Int) : Prop := ∀ x ∈ s, 0 ≤ x ∧ x ≤ 255
theorem wf_BY {s : List Int} (h : ∀ x ∈ s, (Lit.int .u8 x).wf = true) : BY s := fun x hx => by
  have := h x hx
  simp only [Lit.wf, IntKind.min, IntKind.max, IntKind.signed, IntKind.bits, Bool.and_eq_true, decide_eq_true_eq] at this
  simp at this
  omega
theorem BY.rd {s : List Int} (h : BY s) (i : Int) : 0 ≤ rd s i ∧ rd s i ≤ 255 := by
  unfold Go.Proofs.YtldlldfoaicjcaaW.PrintWords.rd
  rw [List.getD_eq_getElem?_getD]
  cases e : s[i.toNat]? with
  | none => exact ⟨Int.le_refl _, (by decide : (0 : Int) ≤ 255)⟩
  | some v => exact h v (List.mem_of_getElem? e)

theorem laws_numberOf_ex {s : List Int} (hs : BY s) (hl : s.length ≤ 1048576) : ∃ n : Nat, Ev (fun k => laws_numberOf.f k s) (n : Int) ∧ n < 1000003 := by
  have h : ∀ d i m : Nat, i + d = s.length → m < 1000003 → ∃ n : Nat, Ev (fun k => laws_numberOf.l0 k (m : Int) s (s.length : Int) (i : Int)) (n : Int) ∧ n < 1000003 := by
    intro d
    induction d with
    | zero =>
      intro i m hi hm
      exact ⟨m, Ev.step (f := fun _ => some (m : Int)) (fun k => by simp only [laws_numberOf.l0]; rw [if_neg (by omega)]) (Ev.now _), hm⟩
    | succ d ih =>
      intro i m hi hm
      have hr := hs.rd (i : Int)
      have e1 : wrap64 (wrap64 (31 * (m : Int)) + wrap64 (rd s (i : Int))) = 31 * (m : Int) + rd s (i : Int) := by
        rw [wrap_in (n := 31 * (m : Int)) (by omega) (by omega), wrap_in (n := rd s (i : Int)) (by omega) (by omega), wrap_in (by omega) (by omega)]
      have ht := tmod_in (31 * (m : Int) + rd s (i : Int)) 1000003 (by omega) (by omega)
      obtain ⟨q, hq⟩ := nat_of ht.1
      obtain ⟨n, h1, h2⟩ := ih (i + 1) q (by omega) (by omega)
      refine ⟨n, Ev.step (f := fun k => laws_numberOf.l0 k (q : Int) s (s.length : Int) ((i + 1 : Nat) : Int)) (fun k => ?_) h1, h2⟩
      have ew : wrap64 ((i : Int) + 1) = ((i + 1 : Nat) : Int) := by rw [wrap_in (by omega) (by omega)]; omega
      simp only [laws_numberOf.l0, e1, hq, ew]
      rw [if_pos (by omega), if_pos (by omega), if_pos (by omega)]
  exact h s.length 0 0 (by omega) (by omega)

theorem laws_sameInts_same (l : List Int) (hl : l.length ≤ 1000000) : Ev (fun k => laws_sameInts.f k l l) true := by
  have h : ∀ d i : Nat, i + d = l.length → Ev (fun k => laws_sameInts.l0 k l l (l.length : Int) (i : Int)) true := by
    intro d
    induction d with
    | zero =>
      intro i hi
      exact Ev.step (f := fun _ => some true) (fun k => by rw [laws_sameInts.l0.eq_2, if_neg (by omega)]) (Ev.now _)
    | succ d ih =>
      intro i hi
      refine Ev.step (f := fun k => laws_sameInts.l0 k l l (l.length : Int) ((i + 1 : Nat) : Int)) (fun k => ?_) (ih (i + 1) (by omega))
      rw [laws_sameInts.l0.eq_2, if_pos (by omega), if_pos (by omega), if_pos (by omega), if_pos (by omega), if_pos rfl, wrap_succ i (by omega)]
  unfold laws_sameInts.f
  simp only [if_pos]
  exact h l.length 0 (by omega)

theorem spec_l1In_eq (a b c : Int) : spec_l1In.f a b c = some (decide (b ≤ a ∧ a ≤ c)) := by
  unfold spec_l1In.f
  by_cases h : a ≥ b
  · rw [if_pos h]; congr 1; simp [show b ≤ a from h]
  · rw [if_neg h]; congr 1; simp; omega

theorem spec_l1Gf_eq (a : Int) : spec_l1Gf.f a = some (isB a) := by
  unfold spec_l1Gf.f; rw [spec_l1In_eq]; rfl

theorem rd_get (l : List Int) (i : Nat) (h : i < l.length) : rd l (i : Int) = l[i] := by
  unfold rd
  simp [List.getD_eq_getElem?_getD, List.getElem?_eq_getElem h]
theorem wrap_up (i : Nat) (h : i < 9223372036854775807) : wrap64 ((i : Int) + 1) = ((i + 1 : Nat) : Int) := by rw [wrap_id (by omega) (by omega)]; omega
theorem wrap_down (a : Nat) (h : a ≤ 9223372036854775807) : wrap64 ((a : Int) - 1) = (a : Int) - 1 := wrap_id (by omega) (by omega)
theorem allB_up {l : List Int} (h : l.all isB = true) : ∃ m : List Nat, l = Poly.up m ∧ Poly.AllB m := by
  refine Poly.up_of fun x hx => ?_
  have := List.all_eq_true.1 h x hx
  simpa [isB] using this
theorem up_allB {m : List Nat} (h : Poly.AllB m) : (Poly.up m).all isB = true := by
  rw [List.all_eq_true]
  intro x hx
  have := Poly.up_bytes h x hx
  simp only [isB, decide_eq_true_eq]; omega

theorem spec_l1All_l0 (l : List Int) (hl : l.length ≤ 140737488351232) : ∀ d i : Nat, i + d = l.length → Ev (fun k => spec_l1All.l0 k l (l.length : Int) (i : Int)) ((l.drop i).all isB) := by
  intro d
  induction d with
  | zero =>
    intro i hi
    obtain rfl : i = l.length := by omega
    rw [List.drop_length]
    exact Ev.step (f := fun _ => some true) (fun k => by simp only [spec_l1All.l0]; rw [if_neg (by omega)]) (Ev.now _)
  | succ d ih =>
    intro i hi
    have hlt : i < l.length := by omega
    rw [List.drop_eq_getElem_cons hlt, List.all_cons]
    cases hb : isB l[i] with
    | true =>
      refine Ev.step (f := fun k => spec_l1All.l0 k l (l.length : Int) ((i + 1 : Nat) : Int)) (fun k => ?_) (ih (i + 1) (by omega))
      simp only [spec_l1All.l0, rd_get l i hlt, wrap_up i (by omega), spec_l1Gf_eq, hb, Option.bind_some, if_true]
      rw [if_pos (by omega), if_pos (by omega), if_pos (by omega)]
    | false =>
      refine Ev.step (f := fun _ => some false) (fun k => ?_) (Ev.now _)
      simp only [spec_l1All.l0, rd_get l i hlt, wrap_up i (by omega), spec_l1Gf_eq, hb, Option.bind_some]
      rw [if_pos (by omega), if_pos (by omega), if_pos (by omega)]; rfl
theorem spec_l1All_ev (l : List Int) (hl : l.length ≤ 140737488351232) : Ev (fun k => spec_l1All.f k l) (l.all isB) := spec_l1All_l0 l hl l.length 0 (by omega)

/-- What GeneratorOf answers. -/
def isW (a : Int) : Bool := decide (1 ≤ a ∧ a ≤ 3)
theorem isW_nat {a : Int} (h : isW a = true) : ∃ n : Nat, a = (n : Int) ∧ 1 ≤ n ∧ n ≤ 3 := by
  simp only [isW, decide_eq_true_eq] at h
  exact ⟨a.toNat, by omega, by omega, by omega⟩
def genV (a : Int) : List Int × Bool := if isW a then (Poly.up (Poly.gen a.toNat), true) else ([], false)

theorem spec_l4Wrong_eq (a : Int) : spec_l4Wrong.f a = some (isW a) := by
  unfold spec_l4Wrong.f; rw [spec_l1In_eq]; rfl

/-- Is a list a polynomial? -/
def isP (l : List Int) : Bool := decide (l.length ≤ 40) && (l.all isB && (decide (l.length = 0) || (rd l ((l.length : Int) - 1) != 0)))
theorem isP_up {l : List Int} (h : isP l = true) : ∃ m : List Nat, l = Poly.up m ∧ Poly.AllB m ∧ m.length ≤ 40 ∧ (m = [] ∨ m.getD (m.length - 1) 0 ≠ 0) := by
  unfold isP at h
  simp only [Bool.and_eq_true, Bool.or_eq_true, decide_eq_true_eq, bne_iff_ne] at h
  obtain ⟨h1, h2, h3⟩ := h
  obtain ⟨m, rfl, hm⟩ := allB_up h2
  rw [Poly.up_length] at h1 h3
  refine ⟨m, rfl, hm, h1, ?_⟩
  rcases h3 with h3 | h3
  · exact .inl (List.length_eq_zero_iff.1 h3)
  · by_cases h0 : m.length = 0
    · exact .inl (List.length_eq_zero_iff.1 h0)
    · refine .inr fun e => h3 ?_
      have : (m.length : Int) - 1 = ((m.length - 1 : Nat) : Int) := by omega
      rw [this, Poly.rd_up, e]; rfl
theorem up_isP {m : List Nat} (hm : Poly.AllB m) (hl : m.length ≤ 40) (h : m = [] ∨ m.getD (m.length - 1) 0 ≠ 0) : isP (Poly.up m) = true := by
  unfold isP
  simp only [Bool.and_eq_true, Bool.or_eq_true, decide_eq_true_eq, bne_iff_ne, Poly.up_length]
  refine ⟨hl, up_allB hm, ?_⟩
  by_cases h0 : m.length = 0
  · exact .inl h0
  · refine .inr fun e => ?_
    have e1 : (m.length : Int) - 1 = ((m.length - 1 : Nat) : Int) := by omega
    rw [e1, Poly.rd_up] at e
    rcases h with h | h
    · rw [h] at h0; exact h0 rfl
    · exact h (by omega)

/-- Is a list a word? -/
def isLg (l : List Int) (w : Int) : Bool := isW w && (decide (2 * w < (l.length : Int) ∧ l.length ≤ 24) && l.all isB)
theorem isLg_up {l : List Int} {w : Int} (h : isLg l w = true) : ∃ (m : List Nat) (n : Nat), l = Poly.up m ∧ w = (n : Int) ∧ Poly.AllB m ∧ 1 ≤ n ∧ n ≤ 3 ∧ 2 * n < m.length ∧ m.length ≤ 24 := by
  unfold isLg at h
  simp only [Bool.and_eq_true, decide_eq_true_eq] at h
  obtain ⟨h1, ⟨h2, h3⟩, h4⟩ := h
  obtain ⟨n, rfl, hn1, hn3⟩ := isW_nat h1
  obtain ⟨m, rfl, hm⟩ := allB_up h4
  rw [Poly.up_length] at h2 h3
  exact ⟨m, n, rfl, rfl, hm, hn1, hn3, by omega, h3⟩

theorem spec_l4Word_ev (l : List Int) (w : Int) (hl : l.length ≤ 140737488351232) : Ev (fun k => spec_l4Word.f k l w) (isLg l w) := by
  unfold spec_l4Word.f isLg
  simp only [spec_l4Wrong_eq, spec_l1In_eq, Option.bind_some]
  cases h1 : isW w
  · exact Ev.now _
  · obtain ⟨n, rfl, h2, h3⟩ := isW_nat h1
    have e : wrap64 (wrap64 (2 * (n : Int)) + 1) = 2 * (n : Int) + 1 := by
      rw [wrap_id (n := 2 * (n : Int)) (by omega) (by omega), wrap_id (by omega) (by omega)]
    have e2 : decide (wrap64 (wrap64 (2 * (n : Int)) + 1) ≤ (l.length : Int) ∧ (l.length : Int) ≤ 24) = decide (2 * (n : Int) < (l.length : Int) ∧ l.length ≤ 24) := by
      rw [e]; exact decide_eq_decide.2 (by omega)
    simp only [if_true, e2, Bool.true_and]
    cases decide (2 * (n : Int) < (l.length : Int) ∧ l.length ≤ 24)
    · exact Ev.now _
    · simp only [if_true, Bool.true_and]
      exact Ev.bind (spec_l1All_ev l hl) (Ev.now _)

theorem spec_l1Mul_l0 : ∀ (n a b o : Nat), a < 256 → o < 256 → b < 2 ^ n → b < 2 ^ 63 → Ev (fun k => spec_l1Mul.l0 k (a : Int) (b : Int) (o : Int)) ((Gf.gmA n a b o : Nat) : Int) := by
  have stop : ∀ a o : Nat, Ev (fun k => spec_l1Mul.l0 k (a : Int) ((0 : Nat) : Int) (o : Int)) ((o : Nat) : Int) := fun a o =>
    Ev.step (f := fun _ => some ((o : Nat) : Int)) (fun k => by simp only [spec_l1Mul.l0]; rw [if_neg (by omega)]) (Ev.now _)
  intro n
  induction n with
  | zero =>
    intro a b o ha ho hb _
    obtain rfl : b = 0 := by simpa using hb
    exact stop a o
  | succ n ih =>
    intro a b o ha ho hb hb63
    by_cases h0 : b = 0
    · subst h0
      rw [Gf.gmA_zero]
      exact stop a o
    · have e1 : wrap64 ((a : Int) * 2) = ((a * 2 : Nat) : Int) := by rw [wrap_id (by omega) (by omega)]; omega
      have e2 : Go.bits .xor .i64 ((a * 2 : Nat) : Int) 285 = (((a * 2) ^^^ 285 : Nat) : Int) := xor_nat (a := a * 2) (b := 285) (by omega) (by decide)
      have e3 : Go.bits .xor .i64 (o : Int) (a : Int) = ((o ^^^ a : Nat) : Int) := xor_nat (by omega) (by omega)
      have e4 := and_one (a := b) hb63
      refine Ev.step (f := fun k => spec_l1Mul.l0 k ((Gf.xt a : Nat) : Int) ((b / 2 : Nat) : Int) (((if b % 2 = 1 then o ^^^ a else o) : Nat) : Int)) (fun k => ?_) (ih _ _ _ (Gf.xt_lt a ha) ?_ (by rw [Nat.pow_succ] at hb; omega) (by omega))
      · simp only [spec_l1Mul.l0, e1, e2, e3, e4, half_nat, Gf.xt]
        rw [if_pos (show (b : Int) > 0 by omega)]
        by_cases h1 : b % 2 = 1 <;> by_cases h2 : 255 < a * 2
        · rw [if_pos (show ((b % 2 : Nat) : Int) = 1 by omega), if_pos h1, if_pos (by omega), if_pos h2]
        · rw [if_pos (show ((b % 2 : Nat) : Int) = 1 by omega), if_pos h1, if_neg (by omega), if_neg h2]
        · rw [if_neg (show ¬ ((b % 2 : Nat) : Int) = 1 by omega), if_neg h1, if_pos (by omega), if_pos h2]
        · rw [if_neg (show ¬ ((b % 2 : Nat) : Int) = 1 by omega), if_neg h1, if_neg (by omega), if_neg h2]
      · split
        · exact Gf.xor_byte ho ha
        · exact ho
theorem spec_l1Mul_ev (a b : Nat) (ha : a < 256) (hb : b < 256) : Ev (fun k => spec_l1Mul.f k (a : Int) (b : Int)) ((Gf.gm a b : Nat) : Int) :=
  spec_l1Mul_l0 8 a b 0 ha (by decide) hb (by omega)

theorem xor_up {a b : Nat} (ha : a < 256) (hb : b < 256) : Go.bits .xor .i64 (a : Int) (b : Int) = ((a ^^^ b : Nat) : Int) := xor_nat (by omega) (by omega)
theorem wrap_nat (n : Nat) (h : n ≤ 9223372036854775807) : wrap64 (n : Int) = (n : Int) := wrap_id (by omega) (by omega)
theorem wrap_add (a b : Nat) (h : a + b ≤ 9223372036854775807) : wrap64 ((a : Int) + (b : Int)) = ((a + b : Nat) : Int) := by rw [wrap_id (by omega) (by omega)]; omega
theorem wrap_pred (a : Nat) (h : a ≤ 9223372036854775807) (h0 : 0 < a) : wrap64 ((a : Int) - 1) = ((a - 1 : Nat) : Int) := by rw [wrap_id (by omega) (by omega)]; omega

theorem spec_l1Eval_l0 (p : List Nat) (x : Nat) (hp : Poly.AllB p) (hx : x < 256) (hl : p.length ≤ 100000) : ∀ i : Nat, i ≤ p.length → Ev (fun k => spec_l1Eval.l0 k (Poly.up p) (x : Int) ((Poly.gev (p.drop i) x : Nat) : Int) ((i : Int) - 1)) ((Poly.gev p x : Nat) : Int) := by
  intro i
  induction i with
  | zero =>
    intro _
    exact Ev.step (f := fun _ => some ((Poly.gev p x : Nat) : Int)) (fun k => by simp only [spec_l1Eval.l0]; rw [if_neg (by omega)]; rfl) (Ev.now _)
  | succ i ih =>
    intro hi
    have hlt : i < p.length := by omega
    have e1 : ((i + 1 : Nat) : Int) - 1 = (i : Int) := by omega
    have hd : p.drop i = p.getD i 0 :: p.drop (i + 1) := by
      rw [List.drop_eq_getElem_cons hlt]
      simp [List.getD_eq_getElem?_getD, List.getElem?_eq_getElem hlt]
    have hv := Poly.gev_lt (hp.drop (i + 1)) x
    have hg := hp.get i
    have ih' := ih (by omega)
    rw [hd] at ih'
    rw [e1]
    have ex := xor_up (Gf.gm_lt x hv) hg
    refine Ev.step (f := fun k => (spec_l1Mul.f k ((Poly.gev (p.drop (i + 1)) x : Nat) : Int) (x : Int)).bind fun t => spec_l1Eval.l0 k (Poly.up p) (x : Int) (Go.bits .xor .i64 t ((p.getD i 0 : Nat) : Int)) ((i : Int) - 1)) (fun k => ?_) ?_
    · simp only [spec_l1Eval.l0, Poly.rd_up, Poly.up_length, wrap_down i (by omega)]
      have z1 : (0 : Int) ≤ (i : Int) := by omega
      have z2 : (i : Int) < (p.length : Int) := by omega
      rw [if_pos (by omega)]
      simp only [if_pos z1, if_pos z2]
    · refine Ev.bind (spec_l1Mul_ev _ _ hv hx) ?_
      rw [ex]
      exact ih'
theorem spec_l1Eval_ev (p : List Nat) (x : Nat) (hp : Poly.AllB p) (hx : x < 256) (hl : p.length ≤ 100000) : Ev (fun k => spec_l1Eval.f k (Poly.up p) (x : Int)) ((Poly.gev p x : Nat) : Int) := by
  have := spec_l1Eval_l0 p x hp hx hl p.length (Nat.le_refl _)
  rw [List.drop_length] at this
  unfold spec_l1Eval.f
  rw [Poly.up_length, wrap_down p.length (by omega)]
  exact this

theorem spec_l1Pow_l0 : ∀ (f a n o : Nat), a < 256 → o < 256 → n < 2 ^ f → n < 2 ^ 63 → Ev (fun k => spec_l1Pow.l0 k (a : Int) (n : Int) (o : Int)) ((Gf.pwA f a n o : Nat) : Int) := by
  have stop : ∀ a o : Nat, Ev (fun k => spec_l1Pow.l0 k (a : Int) ((0 : Nat) : Int) (o : Int)) ((o : Nat) : Int) := fun a o =>
    Ev.step (f := fun _ => some ((o : Nat) : Int)) (fun k => by simp only [spec_l1Pow.l0]; rw [if_neg (by omega)]) (Ev.now _)
  have z : ∀ f a o, Gf.pwA f a 0 o = o := by
    intro f
    induction f with
    | zero => intro a o; rfl
    | succ f ih => intro a o; exact ih _ _
  intro f
  induction f with
  | zero =>
    intro a n o ha ho hn _
    obtain rfl : n = 0 := by simpa using hn
    exact stop a o
  | succ f ih =>
    intro a n o ha ho hn hn63
    by_cases h0 : n = 0
    · subst h0
      rw [z]
      exact stop a o
    · have e4 := and_one (a := n) hn63
      have hsq := Gf.gm_lt a ha
      by_cases h1 : n % 2 = 1
      · refine Ev.step (f := fun k => (spec_l1Mul.f k (o : Int) (a : Int)).bind fun t => (spec_l1Mul.f k (a : Int) (a : Int)).bind fun u => spec_l1Pow.l0 k u ((n / 2 : Nat) : Int) t) (fun k => ?_) ?_
        · simp only [spec_l1Pow.l0, e4, half_nat]
          rw [if_pos (show (n : Int) > 0 by omega), if_pos (show ((n % 2 : Nat) : Int) = 1 by omega)]
        · have := ih (Gf.gm a a) (n / 2) (Gf.gm o a) hsq (Gf.gm_lt a ho) (by rw [Nat.pow_succ] at hn; omega) (by omega)
          show Ev _ ((Gf.pwA f (Gf.gm a a) (n / 2) (if n % 2 = 1 then Gf.gm o a else o) : Nat) : Int)
          rw [if_pos h1]
          exact Ev.bind (f := fun k t => (spec_l1Mul.f k (a : Int) (a : Int)).bind fun u => spec_l1Pow.l0 k u ((n / 2 : Nat) : Int) t) (spec_l1Mul_ev o a ho ha) (Ev.bind (f := fun k u => spec_l1Pow.l0 k u ((n / 2 : Nat) : Int) ((Gf.gm o a : Nat) : Int)) (spec_l1Mul_ev a a ha ha) this)
      · refine Ev.step (f := fun k => (spec_l1Mul.f k (a : Int) (a : Int)).bind fun u => spec_l1Pow.l0 k u ((n / 2 : Nat) : Int) (o : Int)) (fun k => ?_) ?_
        · simp only [spec_l1Pow.l0, e4, half_nat]
          rw [if_pos (show (n : Int) > 0 by omega), if_neg (show ¬ ((n % 2 : Nat) : Int) = 1 by omega)]
        · have := ih (Gf.gm a a) (n / 2) o hsq ho (by rw [Nat.pow_succ] at hn; omega) (by omega)
          show Ev _ ((Gf.pwA f (Gf.gm a a) (n / 2) (if n % 2 = 1 then Gf.gm o a else o) : Nat) : Int)
          rw [if_neg h1]
          exact Ev.bind (f := fun k u => spec_l1Pow.l0 k u ((n / 2 : Nat) : Int) (o : Int)) (spec_l1Mul_ev a a ha ha) this
theorem spec_l1Pow_ev (a n : Nat) (ha : a < 256) (hn : n < 2 ^ 62) : Ev (fun k => spec_l1Pow.f k (a : Int) (n : Int)) ((Gf.pw a n : Nat) : Int) := by
  have := spec_l1Pow_l0 62 a n 1 ha (by decide) hn (by omega)
  rw [Gf.pwA_eq 62 a n 1 ha (by decide) hn, Gf.one_gm _ (Gf.pw_lt n)] at this
  exact this

/-- The first n values at powers of 2. -/
def synL (m : List Nat) (n : Nat) : List Nat := (List.range n).map fun k => Poly.gev m (Gf.pw 2 k)
theorem synL_length (m : List Nat) (n : Nat) : (synL m n).length = n := by simp [synL]
theorem synL_succ (m : List Nat) (n : Nat) : synL m (n + 1) = synL m n ++ [Poly.gev m (Gf.pw 2 n)] := by simp [synL, List.range_succ]
theorem synL_bytes {m : List Nat} (hm : Poly.AllB m) (n : Nat) : Poly.AllB (synL m n) := fun x hx => by
  obtain ⟨k, _, rfl⟩ := List.mem_map.1 hx
  exact Poly.gev_lt hm _

theorem spec_l4Syndromes_l0 (m : List Nat) (w : Nat) (hm : Poly.AllB m) (hl : m.length ≤ 1000) (hw : w ≤ 3) : ∀ d n : Nat, n + d = 2 * w → Ev (fun k => spec_l4Syndromes.l0 k (Poly.up m) (w : Int) (Poly.up (synL m n)) (n : Int)) (Poly.up (synL m (2 * w))) := by
  have e2 : wrap64 (2 * (w : Int)) = ((2 * w : Nat) : Int) := by rw [wrap_id (by omega) (by omega)]; omega
  intro d
  induction d with
  | zero =>
    intro n hn
    obtain rfl : n = 2 * w := by omega
    exact Ev.step (f := fun _ => some (Poly.up (synL m (2 * w)))) (fun k => by simp only [spec_l4Syndromes.l0, e2]; rw [if_neg (by omega)]) (Ev.now _)
  | succ d ih =>
    intro n hn
    have z : (Poly.up (synL m n)).length < 17592186044416 := by rw [Poly.up_length, synL_length]; omega
    refine Ev.step (fun k => spec_l4Syndromes.l0.eq_2 _ _ _ _ k) ?_
    have z1 : (n : Int) < ((2 * w : Nat) : Int) := by omega
    simp only [e2, if_pos z1, if_pos z, wrap_up n (by omega)]
    refine Ev.bind (spec_l1Pow_ev 2 n (by decide) (by omega)) ?_
    refine Ev.bind (spec_l1Eval_ev m (Gf.pw 2 n) hm (Gf.pw_lt n) (by omega)) ?_
    rw [Poly.up_snoc, ← synL_succ]
    exact ih (n + 1) (by omega)
theorem spec_l4Syndromes_ev (m : List Nat) (w : Nat) (hm : Poly.AllB m) (hl : m.length ≤ 1000) (hw : w ≤ 3) : Ev (fun k => spec_l4Syndromes.f k (Poly.up m) (w : Int)) (Poly.up (synL m (2 * w))) := spec_l4Syndromes_l0 m w hm hl hw (2 * w) 0 (by omega)

/-- What EvalGf answers. -/
def evalV (l : List Int) (a : Int) : Int × Bool := if isP l && isB a then (((Poly.gev (l.map Int.toNat) a.toNat : Nat) : Int), true) else (0, false)
theorem toNat_up (m : List Nat) : (Poly.up m).map Int.toNat = m := by
  unfold Poly.up
  rw [List.map_map]
  conv => rhs; rw [← List.map_id m]
  exact List.map_congr_left fun x _ => by simp

/-- What SyndromesOf answers. -/
def synV (l : List Int) (w : Int) : List Int × Bool := if isLg l w then (Poly.up (synL (l.map Int.toNat) (2 * w.toNat)), true) else ([], false)
theorem synV_length (l : List Int) (w : Int) : (synV l w).1.length ≤ 6 := by
  unfold synV
  split
  · rename_i h
    obtain ⟨m, n, rfl, rfl, hm, h1, h3, h4, h5⟩ := isLg_up h
    simp only [Poly.up_length, synL_length, Int.toNat_natCast]; omega
  · simp

theorem spec_SyndromesOf_ev (l : List Int) (w : Int) (hl : l.length ≤ 140737488351232) : Ev (fun k => spec_SyndromesOf.f k l w) (synV l w) := by
  unfold spec_SyndromesOf.f synV
  refine Ev.bind (spec_l4Word_ev l w hl) ?_
  cases h : isLg l w
  · exact Ev.now _
  · obtain ⟨m, n, rfl, rfl, hm, h1, h3, h4, h5⟩ := isLg_up h
    simp only [if_true, toNat_up, Int.toNat_natCast]
    exact Ev.bind (spec_l4Syndromes_ev m n hm (by omega) h3) (Ev.now _)

theorem spec_l1Cur_next_ex {s : List Int} (hs : BY s) {a : Int} (d : Int) (ha : 0 ≤ a) (hb : a ≤ 1000000000000) : ∃ v a' d', spec_l1Cur_next.f s a d = some (v, a', d') ∧ 0 ≤ v ∧ v ≤ 255 ∧ 0 ≤ a' ∧ a' ≤ a + 1 := by
  have ew : wrap64 (a + 1) = a + 1 := wrap_in (by omega) (by omega)
  unfold spec_l1Cur_next.f
  rw [ew]
  have hr := hs.rd a
  by_cases h1 : a < (s.length : Int)
  · rw [if_pos h1, if_pos ha]
    by_cases h2 : a + 1 ≤ (s.length : Int)
    · rw [if_pos h2]
      exact ⟨_, _, _, rfl, by rw [wrap_in (by omega) (by omega)]; omega, by rw [wrap_in (by omega) (by omega)]; omega, by omega, by omega⟩
    · omega
  · rw [if_neg h1]
    by_cases h2 : a + 1 ≤ (s.length : Int)
    · omega
    · rw [if_neg h2]
      generalize IntKind.u64.wrap ((IntKind.u64.wrap ((IntKind.u64.wrap (d * 6364136223846793005)))) + 1442695040888963407) = z
      have hz := and_255 (z / 1099511627776)
      exact ⟨_, _, _, rfl, by rw [wrap_in (by omega) (by omega)]; omega, by rw [wrap_in (by omega) (by omega)]; omega, by omega, by omega⟩

theorem spec_l1Cur_pick_ex {s : List Int} (hs : BY s) {a : Int} (d : Int) (n : Int) (ha : 0 ≤ a) (hb : a ≤ 900000000000) : ∃ v a' d', spec_l1Cur_pick.f s a d n = some (v, a', d') ∧ 0 ≤ v ∧ (v < n ∨ v = 0) ∧ v ≤ 65535 ∧ 0 ≤ a' ∧ a' ≤ a + 2 := by
  unfold spec_l1Cur_pick.f
  by_cases h1 : n ≤ 1
  · rw [if_pos h1]; exact ⟨_, _, _, rfl, by omega, by omega, by omega, by omega, by omega⟩
  · rw [if_neg h1]
    obtain ⟨v, a1, d1, e1, h2, h3, h4, h5⟩ := spec_l1Cur_next_ex hs d ha (by omega)
    rw [e1, Option.bind_some]
    by_cases h6 : n > 200
    · obtain ⟨v2, a2, d2, e2, h7, h8, h9, h10⟩ := spec_l1Cur_next_ex hs d1 h4 (by omega)
      have ew : wrap64 (wrap64 (v * 256) + v2) = v * 256 + v2 := by rw [wrap_in (n := v * 256) (by omega) (by omega), wrap_in (by omega) (by omega)]
      have ht := tmod_in (v * 256 + v2) n (by omega) (by omega)
      simp only [if_pos h6, e2, Option.bind_some, ew, if_neg (show ¬ n = 0 by omega)]
      exact ⟨_, _, _, rfl, by omega, by omega, by omega, by omega, by omega⟩
    · have ht := tmod_in v n (by omega) (by omega)
      simp only [if_neg h6, if_neg (show ¬ n = 0 by omega)]
      exact ⟨_, _, _, rfl, by omega, by omega, by omega, by omega, by omega⟩

theorem spec_l1Cur_one_ex {s : List Int} (hs : BY s) {a : Int} (d : Int) (n : Int) (ha : 0 ≤ a) (hb : a ≤ 900000000000) : ∃ v a' d', spec_l1Cur_one.f s a d n = some (v, a', d') ∧ 0 ≤ a' ∧ a' ≤ a + 2 := by
  obtain ⟨v, a1, d1, e1, h2, h3, h4, h5, h6⟩ := spec_l1Cur_pick_ex hs d n ha hb
  unfold spec_l1Cur_one.f
  rw [e1, Option.bind_some]
  exact ⟨_, _, _, rfl, h5, h6⟩

theorem isB_in {x : Int} (h0 : 0 ≤ x) (h1 : x ≤ 255) : isB x = true := by
  unfold isB
  simp only [decide_eq_true_eq]; omega
theorem spec_l1Cur_elements_l0 {s : List Int} (hs : BY s) : ∀ (n : Nat) (l : List Int) (a d : Int), n + l.length ≤ 1000 → l.all isB = true → 0 ≤ a → a ≤ 800000000000 - 2 * n →
    ∃ v a' d', Ev (fun k => spec_l1Cur_elements.l0 k (n : Int) l s a d) (v, a', d') ∧ v.length = l.length + n ∧ v.all isB = true ∧ 0 ≤ a' ∧ a' ≤ a + 2 * n := by
  intro n
  induction n with
  | zero =>
    intro l a d _ hl ha _
    exact ⟨l, a, d, Ev.step (f := fun _ => some (l, a, d)) (fun k => by rw [spec_l1Cur_elements.l0.eq_2, if_neg (by omega)]) (Ev.now _), by omega, hl, ha, by omega⟩
  | succ n ih =>
    intro l a d hn hl ha hb
    obtain ⟨x, a1, d1, e1, h2, h3, h4, h5, h6⟩ := spec_l1Cur_pick_ex hs d 256 ha (by omega)
    obtain ⟨v, a2, d2, E, q1, q2, q3, q4⟩ := ih (l ++ [x]) a1 d1 (by rw [List.length_append]; simp; omega) (by rw [List.all_append, hl]; simp [isB_in h2 (show x ≤ 255 by omega)]) h5 (by omega)
    refine ⟨v, a2, d2, ?_, by rw [q1, List.length_append]; simp; omega, q2, q3, by omega⟩
    refine Ev.step (f := fun k => spec_l1Cur_elements.l0 k (n : Int) (l ++ [x]) s a1 d1) (fun k => ?_) E
    have ew : wrap64 (((n + 1 : Nat) : Int) - 1) = (n : Int) := by rw [wrap_in (by omega) (by omega)]; omega
    rw [spec_l1Cur_elements.l0.eq_2, if_pos (by omega), e1, Option.bind_some]
    show (if l.length < 17592186044416 then spec_l1Cur_elements.l0 k (wrap64 (((n + 1 : Nat) : Int) - 1)) (l ++ [x]) s a1 d1 else none) = _
    rw [if_pos (by omega), ew]
theorem spec_l1Cur_elements_ex {s : List Int} (hs : BY s) {a : Int} (d : Int) (n : Nat) (hn : n ≤ 100) (ha : 0 ≤ a) (hb : a ≤ 700000000000) :
    ∃ v a' d', Ev (fun k => spec_l1Cur_elements.f k s a d (n : Int)) (v, a', d') ∧ v.length = n ∧ v.all isB = true ∧ 0 ≤ a' ∧ a' ≤ a + 2 * n := by
  obtain ⟨v, a1, d1, E, h1, h2, h3, h4⟩ := spec_l1Cur_elements_l0 hs n [] a d (by simp; omega) rfl ha (by omega)
  exact ⟨v, a1, d1, E, by simpa using h1, h2, h3, h4⟩

theorem spec_l1Cut_l0 (l : List Nat) (hl : l.length ≤ 1000000) : ∀ n, n ≤ l.length → Ev (fun k => spec_l1Cut.l0 k (Poly.up (l.take n))) (Poly.up (Poly.trN l n)) := by
  intro n
  induction n with
  | zero =>
    intro _
    refine Ev.step (f := fun _ => some (Poly.up (Poly.trN l 0))) (fun k => ?_) (Ev.now _)
    simp only [spec_l1Cut.l0, List.take_zero, Poly.up_length, Option.bind_some]
    rw [if_neg (by simp), if_pos (by simp)]
    rfl
  | succ n ih =>
    intro hn
    have hlen : (Poly.up (l.take (n + 1))).length = n + 1 := by rw [Poly.up_length, List.length_take]; omega
    have hw : wrap64 (((n + 1 : Nat) : Int) - 1) = (n : Int) := by rw [wrap_pred _ (by omega) (by omega)]; rfl
    have hr : rd (Poly.up (l.take (n + 1))) (n : Int) = ((l.getD n 0 : Nat) : Int) := by
      rw [Poly.rd_up]
      simp only [List.getD_eq_getElem?_getD]
      rw [List.getElem?_take_of_lt (by omega)]
    unfold Poly.trN
    by_cases h : l.getD n 0 = 0
    · rw [if_pos h]
      refine Ev.step (f := fun k => spec_l1Cut.l0 k (Poly.up (l.take n))) (fun k => ?_) (ih (by omega))
      simp only [spec_l1Cut.l0, hlen, hw, hr, h]
      rw [if_pos (by omega), if_pos (by omega), if_pos (by omega), if_pos (by omega), if_pos (by omega), Int.toNat_natCast, Poly.up_take, List.take_take, Nat.min_eq_left (by omega)]
    · rw [if_neg h]
      refine Ev.step (f := fun _ => some (Poly.up (l.take (n + 1)))) (fun k => ?_) (Ev.now _)
      simp only [spec_l1Cut.l0, hlen, hw, hr, Option.bind_some]
      rw [if_pos (by omega), if_pos (by omega), if_pos (by omega), if_neg (by omega), if_pos (by simp; omega)]
      rfl
theorem spec_l1Cut_ev (l : List Nat) (hl : l.length ≤ 1000000) : Ev (fun k => spec_l1Cut.f k (Poly.up l)) (Poly.up (Poly.tr l)) := by
  have := spec_l1Cut_l0 l hl l.length (Nat.le_refl _)
  rw [List.take_length] at this
  exact this

theorem spec_l1MulPoly_l0 (p q : List Nat) (hp : Poly.AllB p) (hq : Poly.AllB q) (hpl : p.length ≤ 1000) (hql : q.length ≤ 1000) : ∀ (d i : Nat) (out : List Nat), i + d = p.length → out.length = p.length + q.length → Poly.AllB out →
    Ev (fun k => spec_l1MulPoly.l0 k (Poly.up q) (Poly.up out) (Poly.up p) (p.length : Int) (i : Int)) (Poly.up (Poly.tr (Poly.mpA q (p.drop i) i out))) := by
  intro d
  induction d with
  | zero =>
    intro i out hi hol hob
    obtain rfl : i = p.length := by omega
    rw [List.drop_length]
    refine Ev.step (f := fun k => (spec_l1Cut.f k (Poly.up out)).bind fun t => some t) (fun k => ?_) (Ev.bind (f := fun _ t => some t) (spec_l1Cut_ev out (by omega)) (Ev.now _))
    simp only [spec_l1MulPoly.l0]
    rw [if_neg (by omega)]
  | succ d ih =>
    intro i out hi hol hob
    have hlt : i < p.length := by omega
    have ha : p.getD i 0 < 256 := hp.get i
    have inner : ∀ (e j : Nat) (o : List Nat), j + e = q.length → o.length = p.length + q.length → Poly.AllB o →
        Ev (fun k => spec_l1MulPoly.l1 k (Poly.up q) (Poly.up o) (i : Int) ((p.getD i 0 : Nat) : Int) (Poly.up p) (p.length : Int) (i : Int) (Poly.up q) (q.length : Int) (j : Int)) (Poly.up (Poly.tr (Poly.mpA q (p.drop (i + 1)) (i + 1) (Poly.mrow (p.getD i 0) (q.drop j) (i + j) o)))) := by
      intro e
      induction e with
      | zero =>
        intro j o hj hol hob
        obtain rfl : j = q.length := by omega
        rw [List.drop_length]
        refine Ev.step (f := fun k => spec_l1MulPoly.l0 k (Poly.up q) (Poly.up o) (Poly.up p) (p.length : Int) ((i + 1 : Nat) : Int)) (fun k => ?_) (ih (i + 1) o (by omega) hol hob)
        simp only [spec_l1MulPoly.l1, wrap_succ i (by omega)]
        rw [if_neg (by omega)]
      | succ e ihe =>
        intro j o hj hol hob
        have hjl : j < q.length := by omega
        have hb : q.getD j 0 < 256 := hq.get j
        have hdrop : q.drop j = q.getD j 0 :: q.drop (j + 1) := by
          rw [List.drop_eq_getElem_cons hjl]
          simp [List.getD_eq_getElem?_getD, List.getElem?_eq_getElem hjl]
        rw [hdrop]
        unfold Poly.mrow
        have hx := xor_up (hob.get (i + j)) (Gf.gm_lt (q.getD j 0) ha)
        refine Ev.step (f := fun k => (spec_l1Mul.f k ((p.getD i 0 : Nat) : Int) ((q.getD j 0 : Nat) : Int)).bind fun t => spec_l1MulPoly.l1 k (Poly.up q) ((Poly.up o).set (i + j) (Go.bits .xor .i64 ((o.getD (i + j) 0 : Nat) : Int) t)) (i : Int) ((p.getD i 0 : Nat) : Int) (Poly.up p) (p.length : Int) (i : Int) (Poly.up q) (q.length : Int) ((j + 1 : Nat) : Int)) (fun k => ?_) ?_
        · simp only [spec_l1MulPoly.l1, wrap_add i j (by omega), wrap_succ j (by omega), Poly.rd_up, Poly.up_length, Int.toNat_natCast]
          rw [if_pos (by omega), if_pos (by omega), if_pos (by omega), if_pos (by omega), if_pos (by omega)]
        · refine Ev.bind (f := fun k t => spec_l1MulPoly.l1 k (Poly.up q) ((Poly.up o).set (i + j) (Go.bits .xor .i64 ((o.getD (i + j) 0 : Nat) : Int) t)) (i : Int) ((p.getD i 0 : Nat) : Int) (Poly.up p) (p.length : Int) (i : Int) (Poly.up q) (q.length : Int) ((j + 1 : Nat) : Int)) (spec_l1Mul_ev _ _ ha hb) ?_
          simp only [hx, Poly.up_set]
          have := ihe (j + 1) (o.set (i + j) (o.getD (i + j) 0 ^^^ Gf.gm (p.getD i 0) (q.getD j 0))) (by omega) (by rw [List.length_set]; exact hol) (hob.set _ (Gf.xor_byte (hob.get _) (Gf.gm_lt _ ha)))
          rw [show i + (j + 1) = i + j + 1 by omega] at this
          exact this
    have hdrop : p.drop i = p.getD i 0 :: p.drop (i + 1) := by
      rw [List.drop_eq_getElem_cons hlt]
      simp [List.getD_eq_getElem?_getD, List.getElem?_eq_getElem hlt]
    rw [hdrop]
    unfold Poly.mpA
    have := inner q.length 0 out (by omega) hol hob
    rw [List.drop_zero, Nat.add_zero] at this
    refine Ev.step (f := fun k => spec_l1MulPoly.l1 k (Poly.up q) (Poly.up out) (i : Int) ((p.getD i 0 : Nat) : Int) (Poly.up p) (p.length : Int) (i : Int) (Poly.up q) (q.length : Int) 0) (fun k => ?_) this
    simp only [spec_l1MulPoly.l0, Poly.rd_up, Poly.up_length]
    rw [if_pos (by omega), if_pos (by omega), if_pos (by omega)]
theorem spec_l1MulPoly_ev (p q : List Nat) (hp : Poly.AllB p) (hq : Poly.AllB q) (hpl : p.length ≤ 1000) (hql : q.length ≤ 1000) : Ev (fun k => spec_l1MulPoly.f k (Poly.up p) (Poly.up q)) (Poly.up (Poly.mulP p q)) := by
  unfold spec_l1MulPoly.f Poly.mulP
  have z1 : (0 : Int) ≤ ((p.length + q.length : Nat) : Int) := by omega
  have z2 : p.length + q.length ≤ 35184372088832 := by omega
  simp only [Poly.up_length, wrap_add p.length q.length (by omega), if_pos z1, Int.toNat_natCast, if_pos z2, Poly.up_zeros]
  exact spec_l1MulPoly_l0 p q hp hq hpl hql p.length 0 _ (by omega) (by simp) (Poly.AllB.zeros _)

theorem spec_l4Generator_l0 (w : Nat) (hw : w ≤ 3) : ∀ (d k0 : Nat) (acc : List Nat), k0 + d = 2 * w → acc.length ≤ 900 - 2 * d → Poly.AllB acc → Ev (fun k => spec_l4Generator.l0 k (w : Int) (Poly.up acc) (k0 : Int)) (Poly.up (Poly.genA d k0 acc)) := by
  have e2 : wrap64 (2 * (w : Int)) = ((2 * w : Nat) : Int) := by rw [wrap_id (by omega) (by omega)]; omega
  intro d
  induction d with
  | zero =>
    intro k0 acc hk _ _
    refine Ev.step (f := fun _ => some (Poly.up acc)) (fun k => ?_) (Ev.now _)
    simp only [spec_l4Generator.l0, e2]
    rw [if_neg (by omega)]
  | succ d ih =>
    intro k0 acc hk hl hb
    have hq : Poly.AllB [Gf.pw 2 k0, 1] := Poly.AllB.cons (Gf.pw_lt _) (Poly.AllB.cons (by decide) Poly.AllB.nil)
    have hml := Poly.mulP_length acc [Gf.pw 2 k0, 1]
    simp only [List.length_cons, List.length_nil] at hml
    refine Ev.step (f := fun k => (spec_l1Pow.f k 2 (k0 : Int)).bind fun t => (spec_l1MulPoly.f k (Poly.up acc) [t, 1]).bind fun u => spec_l4Generator.l0 k (w : Int) u ((k0 + 1 : Nat) : Int)) (fun k => ?_) ?_
    · simp only [spec_l4Generator.l0, e2, wrap_succ k0 (by omega)]
      rw [if_pos (by omega)]
    · refine Ev.bind (f := fun k t => (spec_l1MulPoly.f k (Poly.up acc) [t, 1]).bind fun u => spec_l4Generator.l0 k (w : Int) u ((k0 + 1 : Nat) : Int)) (spec_l1Pow_ev 2 k0 (by decide) (by omega)) ?_
      exact Ev.bind (f := fun k u => spec_l4Generator.l0 k (w : Int) u ((k0 + 1 : Nat) : Int)) (spec_l1MulPoly_ev acc [Gf.pw 2 k0, 1] hb hq (by omega) (by simp)) (ih (k0 + 1) _ (by omega) (by omega) (Poly.mulP_bytes _ hb))
theorem spec_l4Generator_ev (w : Nat) (hw : w ≤ 3) : Ev (fun k => spec_l4Generator.f k (w : Int)) (Poly.up (Poly.gen w)) :=
  spec_l4Generator_l0 w hw (2 * w) 0 [1] (by omega) (by simp; omega) (Poly.AllB.cons (by decide) Poly.AllB.nil)

theorem spec_l1Div_ev (a b : Nat) (ha : a < 256) (hb : b < 256) : Ev (fun k => spec_l1Div.f k (a : Int) (b : Int)) ((Gf.gm a (Gf.gi b) : Nat) : Int) := by
  unfold spec_l1Div.f
  refine Ev.bind (f := fun k t => (spec_l1Mul.f k (a : Int) t).bind fun u => some u) (spec_l1Pow_ev b 254 hb (by decide)) ?_
  exact Ev.bind (f := fun _ u => some u) (spec_l1Mul_ev a (Gf.gi b) ha (Gf.gi_lt b)) (Ev.now _)

theorem spec_l1Poly_ev (l : List Int) : Ev (fun k => spec_l1Poly.f k l) (isP l) := by
  unfold spec_l1Poly.f isP
  by_cases h1 : l.length ≤ 40
  · have z : (l.length : Int) ≤ 40 := by omega
    simp only [if_pos z, decide_eq_true h1, Bool.true_and]
    refine Ev.bind (spec_l1All_ev l (by omega)) ?_
    cases l.all isB
    · exact Ev.now _
    · by_cases h2 : l.length = 0
      · have z2 : (l.length : Int) = 0 := by omega
        simp only [if_true, if_pos z2, decide_eq_true h2, Bool.true_and, Bool.true_or]
        exact Ev.now _
      · have z2 : ¬ (l.length : Int) = 0 := by omega
        have z3 : (0 : Int) ≤ (l.length : Int) - 1 := by omega
        have z4 : (l.length : Int) - 1 < (l.length : Int) := by omega
        simp only [if_true, if_neg z2, decide_eq_false h2, Bool.true_and, Bool.false_or, wrap_down l.length (by omega), if_pos z3, if_pos z4]
        exact Ev.now _
  · have z : ¬ (l.length : Int) ≤ 40 := by omega
    simp only [if_neg z, decide_eq_false h1, Bool.false_and]
    exact Ev.now _

theorem wrap_sub (a b : Nat) (h : b ≤ a) (h2 : a ≤ 9223372036854775807) : wrap64 ((a : Int) - (b : Int)) = ((a - b : Nat) : Int) := by rw [wrap_id (by omega) (by omega)]; omega
theorem wrap_two (a : Nat) (h : a ≤ 1000000) : wrap64 (2 * (a : Int)) = ((2 * a : Nat) : Int) := by rw [wrap_id (by omega) (by omega)]; omega
theorem wrap_addn (a b : Nat) (h : a + b ≤ 9223372036854775807) : wrap64 ((a : Int) + (b : Int)) = ((a + b : Nat) : Int) := by rw [wrap_id (by omega) (by omega)]; omega
theorem drop_getD (l : List Nat) (i : Nat) (h : i < l.length) : l.drop i = l.getD i 0 :: l.drop (i + 1) := by
  rw [List.drop_eq_getElem_cons h]
  simp [List.getD_eq_getElem?_getD, List.getElem?_eq_getElem h]

/-- The steps of the reference's division: the quotient's list is as long as p. -/
def divS (p q : List Nat) : List Nat × List Nat := Poly.dvA q (Gf.gi (q.getD (q.length - 1) 0)) (p.length + 1 - q.length) (List.replicate p.length 0) p
/-- The steps of the program's division. -/
def divI (p q : List Nat) : List Nat × List Nat := Poly.dvA q (Gf.gi (q.getD (q.length - 1) 0)) (p.length + 1 - q.length) (List.replicate (p.length + 1 - q.length) 0) p
theorem dvA_more (q : List Nat) (inv m : Nat) : ∀ (i : Nat) (quo rest : List Nat), i ≤ quo.length → Poly.dvA q inv i (quo ++ List.replicate m 0) rest = ((Poly.dvA q inv i quo rest).1 ++ List.replicate m 0, (Poly.dvA q inv i quo rest).2)
  | 0, _, _, _ => rfl
  | i + 1, quo, rest, h => by
    unfold Poly.dvA
    rw [List.set_append_left _ _ (by omega)]
    exact dvA_more q inv m i _ _ (by rw [List.length_set]; omega)
theorem div_same (p q : List Nat) (hq : 0 < q.length) : Poly.tr (divS p q).1 = Poly.tr (divI p q).1 ∧ (divS p q).2 = (divI p q).2 := by
  have e : List.replicate p.length 0 = List.replicate (p.length + 1 - q.length) 0 ++ List.replicate (p.length - (p.length + 1 - q.length)) 0 := by
    rw [List.replicate_append_replicate]; congr 1; omega
  have h := dvA_more q (Gf.gi (q.getD (q.length - 1) 0)) (p.length - (p.length + 1 - q.length)) (p.length + 1 - q.length) (List.replicate (p.length + 1 - q.length) 0) p (by rw [List.length_replicate]; exact Nat.le_refl _)
  unfold divS divI
  rw [e, h]
  exact ⟨Poly.tr_zeros _ _, rfl⟩
/-- What DivPoly answers. -/
def divPV (l m : List Int) : List Int × List Int × Bool := if isP l && isP m && decide (0 < m.length) then (Poly.up (Poly.tr (divI (l.map Int.toNat) (m.map Int.toNat)).1), Poly.up (Poly.tr (divI (l.map Int.toNat) (m.map Int.toNat)).2), true) else ([], [], false)
theorem divPV_length (l m : List Int) : (divPV l m).1.length ≤ 41 ∧ (divPV l m).2.1.length ≤ 41 := by
  unfold divPV
  split
  · rename_i h
    simp only [Bool.and_eq_true, decide_eq_true_eq] at h
    obtain ⟨p, rfl, hp, hpl, _⟩ := isP_up h.1.1
    have h1 := Poly.tr_length (divI p (m.map Int.toNat)).1
    have h2 := Poly.tr_length (divI p (m.map Int.toNat)).2
    have h3 := Pev.dvA_length (m.map Int.toNat) (Gf.gi ((m.map Int.toNat).getD ((m.map Int.toNat).length - 1) 0)) (p.length + 1 - (m.map Int.toNat).length) (List.replicate (p.length + 1 - (m.map Int.toNat).length) 0) p
    simp only [Poly.up_length, toNat_up]
    unfold divI at h1 h2 ⊢
    rw [h3.1, List.length_replicate] at h1
    rw [h3.2] at h2
    omega
  · simp

theorem spec_DivPoly_l (q : List Nat) (hq : Poly.AllB q) (hq0 : 0 < q.length) (hql : q.length ≤ 1000) : ∀ (n : Nat) (quo rest : List Nat), Poly.AllB quo → Poly.AllB rest → n ≤ quo.length → n + q.length ≤ rest.length + 1 → quo.length ≤ 5000 → rest.length ≤ 5000 →
    Ev (fun r => spec_DivPoly.l0 r (Poly.up q) (Poly.up rest) (Poly.up quo) ((q.getD (q.length - 1) 0 : Nat) : Int) ((n : Int) - 1)) (Poly.up (Poly.tr (Poly.dvA q (Gf.gi (q.getD (q.length - 1) 0)) n quo rest).1), Poly.up (Poly.tr (Poly.dvA q (Gf.gi (q.getD (q.length - 1) 0)) n quo rest).2), true) := by
  have ht := Pev.getD_lt hq (q.length - 1)
  intro n
  induction n with
  | zero =>
    intro quo rest h1 h2 _ _ h5 h6
    have z : ¬ (((0 : Nat) : Int) - 1 ≥ 0) := by omega
    refine Ev.step (fun k => spec_DivPoly.l0.eq_2 _ _ _ _ _ k) ?_
    simp only [if_neg z]
    exact Ev.bind (spec_l1Cut_ev quo (by omega)) (Ev.bind (spec_l1Cut_ev rest (by omega)) (Ev.now _))
  | succ n ih =>
    intro quo rest h1 h2 h3 h4 h5 h6
    have e0 : ((n + 1 : Nat) : Int) - 1 = (n : Int) := by omega
    have e1 : wrap64 (wrap64 ((n : Int) + (q.length : Int)) - 1) = ((n + q.length - 1 : Nat) : Int) := by rw [wrap_addn _ _ (by omega), wrap_id (by omega) (by omega)]; omega
    have z1 : (n : Int) ≥ 0 := by omega
    have z2 : (0 : Int) ≤ ((n + q.length - 1 : Nat) : Int) := by omega
    have z3 : ((n + q.length - 1 : Nat) : Int) < (rest.length : Int) := by omega
    have z4 : (0 : Int) ≤ (n : Int) := by omega
    have z5 : (n : Int) < (quo.length : Int) := by omega
    have hf := Gf.gm_lt (Gf.gi (q.getD (q.length - 1) 0)) (Pev.getD_lt h2 (n + q.length - 1))
    rw [e0]
    refine Ev.step (fun k => spec_DivPoly.l0.eq_2 _ _ _ _ _ k) ?_
    simp only [Poly.up_length, Poly.rd_up, e1, if_pos z1, if_pos z2, if_pos z3, if_pos z4, if_pos z5, Int.toNat_natCast]
    refine Ev.bind (spec_l1Div_ev _ _ (Pev.getD_lt h2 (n + q.length - 1)) ht) ?_
    unfold Poly.dvA
    generalize Gf.gm (rest.getD (n + q.length - 1) 0) (Gf.gi (q.getD (q.length - 1) 0)) = f at hf ⊢
    rw [Poly.up_set]
    have inner : ∀ (d j : Nat) (out : List Nat), j + d = q.length → Poly.AllB out → out.length = rest.length → 
        Poly.mrow f (q.drop j) (n + j) out = Poly.mrow f q n rest → Ev (fun r => spec_DivPoly.l1 r (Poly.up q) (Poly.up out) (Poly.up (quo.set n f)) ((q.getD (q.length - 1) 0 : Nat) : Int) (n : Int) (f : Int) (Poly.up q) (q.length : Int) (j : Int)) (Poly.up (Poly.tr (Poly.dvA q (Gf.gi (q.getD (q.length - 1) 0)) n (quo.set n f) (Poly.mrow f q n rest)).1), Poly.up (Poly.tr (Poly.dvA q (Gf.gi (q.getD (q.length - 1) 0)) n (quo.set n f) (Poly.mrow f q n rest)).2), true) := by
      intro d
      induction d with
      | zero =>
        intro j out hj ho hl he
        obtain rfl : j = q.length := by omega
        rw [List.drop_length] at he
        have he' : out = Poly.mrow f q n rest := he
        have z : ¬ ((q.length : Nat) : Int) < ((q.length : Nat) : Int) := by omega
        refine Ev.step (fun k => spec_DivPoly.l1.eq_2 _ _ _ _ _ _ _ _ _ k) ?_
        simp only [if_neg z, wrap_down n (by omega)]
        rw [← he']
        exact ih (quo.set n f) out (Poly.AllB.set h1 n hf) ho (by rw [List.length_set]; omega) (by omega) (by rw [List.length_set]; omega) (by omega)
      | succ d ihd =>
        intro j out hj ho hl he
        have hjl : j < q.length := by omega
        have y1 : (j : Int) < (q.length : Int) := by omega
        have y2 : (0 : Int) ≤ (j : Int) := by omega
        have y3 : (0 : Int) ≤ ((n + j : Nat) : Int) := by omega
        have y4 : ((n + j : Nat) : Int) < (out.length : Int) := by omega
        refine Ev.step (fun k => spec_DivPoly.l1.eq_2 _ _ _ _ _ _ _ _ _ k) ?_
        simp only [Poly.up_length, Poly.rd_up, if_pos y1, if_pos y2, wrap_addn n j (by omega), if_pos y3, if_pos y4, wrap_up j (by omega), Int.toNat_natCast]
        refine Ev.bind (spec_l1Mul_ev f (q.getD j 0) hf (hq.get j)) ?_
        rw [xor_up (ho.get (n + j)) (Gf.gm_lt (q.getD j 0) hf), Poly.up_set]
        refine ihd (j + 1) (out.set (n + j) (out.getD (n + j) 0 ^^^ Gf.gm f (q.getD j 0))) (by omega) (ho.set _ (Gf.xor_byte (ho.get _) (Gf.gm_lt _ hf))) (by rw [List.length_set]; exact hl) ?_
        rw [← he, drop_getD q j hjl, show n + (j + 1) = n + j + 1 by omega]
        rfl
    exact inner q.length 0 rest (by omega) h2 rfl (by rw [List.drop_zero, Nat.add_zero])
theorem spec_DivPoly_ev (l m : List Int) : Ev (fun k => spec_DivPoly.f k l m) (divPV l m) := by
  have no : Ev (fun k => spec_DivPoly.j0 k l m true) (([] : List Int), ([] : List Int), false) := Ev.step (f := fun _ => some (([] : List Int), ([] : List Int), false)) (fun k => by simp only [spec_DivPoly.j0]; rfl) (Ev.now _)
  unfold spec_DivPoly.f divPV
  refine Ev.bind (spec_l1Poly_ev l) ?_
  cases h1 : isP l
  · exact no
  · simp only [if_true]
    refine Ev.bind (spec_l1Poly_ev m) ?_
    cases h2 : isP m
    · exact no
    · by_cases h3 : 0 < m.length
      · obtain ⟨p, rfl, hp, hpl, _⟩ := isP_up h1
        obtain ⟨q, rfl, hq, hql, _⟩ := isP_up h2
        rw [Poly.up_length] at h3
        have z0 : (((q.length : Nat) : Int) == 0) = false := beq_eq_false_iff_ne.2 (by omega)
        have z1 : ([] : List Int).length + (Poly.up p).length < 17592186044416 := by rw [Poly.up_length]; simp; omega
        have z2 : (0 : Int) ≤ (p.length : Int) := by omega
        have z3 : (p.length : Int).toNat ≤ 35184372088832 := by omega
        have z4 : (0 : Int) ≤ ((q.length - 1 : Nat) : Int) := by omega
        have z5 : ((q.length - 1 : Nat) : Int) < (q.length : Int) := by omega
        have e2 : wrap64 ((q.length : Int) - 1) = ((q.length - 1 : Nat) : Int) := by rw [wrap_id (by omega) (by omega)]; omega
        simp only [if_true, Bool.and_self, Poly.up_length, h3, decide_true, toNat_up, z0]
        refine Ev.step (f := fun r => spec_DivPoly.l0 r (Poly.up q) (Poly.up p) (Poly.up (List.replicate p.length 0)) ((q.getD (q.length - 1) 0 : Nat) : Int) (wrap64 ((p.length : Int) - (q.length : Int)))) (fun r => ?_) ?_
        · rw [spec_DivPoly.j0.eq_2, if_neg (by decide), Option.bind_some, if_pos z1, Poly.up_length, if_pos z2, if_pos z3, Poly.up_length, e2, if_pos z4, if_pos z5, Poly.rd_up, List.nil_append, Int.toNat_natCast, Poly.up_zeros]
        · have hsm := div_same p q h3
          rw [← hsm.1, ← hsm.2]
          unfold divS
          by_cases h4 : q.length ≤ p.length + 1
          · have e3 : wrap64 ((p.length : Int) - (q.length : Int)) = ((p.length + 1 - q.length : Nat) : Int) - 1 := by rw [wrap_id (by omega) (by omega)]; omega
            rw [e3]
            exact spec_DivPoly_l q hq h3 (by omega) (p.length + 1 - q.length) _ p (Poly.AllB.zeros _) hp (by rw [List.length_replicate]; omega) (by omega) (by rw [List.length_replicate]; omega) (by omega)
          · have e4 : p.length + 1 - q.length = 0 := by omega
            rw [e4]
            have z6 : ¬ (wrap64 ((p.length : Int) - (q.length : Int)) ≥ 0) := by rw [wrap_id (by omega) (by omega)]; omega
            refine Ev.step (fun k => spec_DivPoly.l0.eq_2 _ _ _ _ _ k) ?_
            simp only [if_neg z6]
            exact Ev.bind (spec_l1Cut_ev _ (by rw [List.length_replicate]; omega)) (Ev.bind (spec_l1Cut_ev p (by omega)) (Ev.now _))
      · have z0 : (((m.length : Nat) : Int) == 0) = true := by rw [beq_iff_eq]; omega
        simp only [if_true, z0, h3, decide_false, Bool.and_false]
        exact no

def wEncOk (m : List Int) (w : Int) : Bool := isW w && (decide (1 ≤ m.length ∧ (m.length : Int) + 2 * w ≤ 24) && m.all isB)
/-- What EncodeWord answers. -/
def wEncV (m : List Int) (w : Int) : List Int × Bool := if wEncOk m w then (Poly.up (Enc.encL (m.map Int.toNat) w.toNat), true) else ([], false)
theorem wEncOk_up {l : List Int} {w : Int} (h : wEncOk l w = true) : ∃ (m : List Nat) (n : Nat), l = Poly.up m ∧ w = (n : Int) ∧ Poly.AllB m ∧ 1 ≤ n ∧ n ≤ 3 ∧ 1 ≤ m.length ∧ m.length + 2 * n ≤ 24 := by
  unfold wEncOk at h
  simp only [Bool.and_eq_true, decide_eq_true_eq] at h
  obtain ⟨h1, ⟨h2, h3⟩, h4⟩ := h
  obtain ⟨n, rfl, hn1, hn3⟩ := isW_nat h1
  obtain ⟨m, rfl, hm⟩ := allB_up h4
  rw [Poly.up_length] at h2 h3
  exact ⟨m, n, rfl, rfl, hm, hn1, hn3, h2, by omega⟩
theorem up_wEncOk {m : List Nat} {n : Nat} (hm : Poly.AllB m) (h1 : 1 ≤ n) (h3 : n ≤ 3) (h4 : 1 ≤ m.length) (h5 : m.length + 2 * n ≤ 24) : wEncOk (Poly.up m) (n : Int) = true := by
  unfold wEncOk isW
  rw [up_allB hm, Poly.up_length, decide_eq_true (by omega), decide_eq_true (by omega)]; rfl
theorem wEncV_up {m : List Nat} {n : Nat} (h : wEncOk (Poly.up m) (n : Int) = true) : wEncV (Poly.up m) (n : Int) = (Poly.up (Enc.encL m n), true) := by
  unfold wEncV
  rw [if_pos h, toNat_up, Int.toNat_natCast]
theorem wEncV_length (m : List Int) (w : Int) : (wEncV m w).1.length ≤ 24 := by
  unfold wEncV
  split
  · rename_i h
    obtain ⟨x, n, rfl, rfl, hx, h1, h3, h4, h5⟩ := wEncOk_up h
    rw [toNat_up, Int.toNat_natCast, Poly.up_length, Enc.encL_length hx]; omega
  · simp

theorem rst_divI (m : List Nat) (n : Nat) : Poly.tr (divI (List.replicate (2 * n) 0 ++ m) (Poly.gen n)).2 = Enc.rst m n := by
  unfold divI Enc.rst
  rw [Enc.dvA_rs]
theorem rst_divS {m : List Nat} (hm : Poly.AllB m) (n : Nat) (h : 2 * n + m.length ≤ 39) :
    (divPV (Poly.up (Poly.tr (List.replicate (2 * n) 0 ++ m))) (Poly.up (Poly.gen n))).2.1 = Poly.up (Enc.rst m n) := by
  obtain ⟨g1, g2⟩ := Enc.gen_top n
  have hl := Poly.tr_length (List.replicate (2 * n) 0 ++ m)
  rw [List.length_append, List.length_replicate] at hl
  have h1 : isP (Poly.up (Poly.tr (List.replicate (2 * n) 0 ++ m))) = true := up_isP (Poly.tr_bytes (Enc.zm_Bs hm n)) (by omega) (Pev.tr_last _)
  have h2 : isP (Poly.up (Poly.gen n)) = true := up_isP (Poly.gen_bytes n) (by rw [g1]; omega) (.inr g2)
  unfold divPV
  rw [h1, h2, decide_eq_true (show 0 < (Poly.up (Poly.gen n)).length by rw [Poly.up_length]; omega), toNat_up, toNat_up]
  show Poly.up (Poly.tr (divI (Poly.tr (List.replicate (2 * n) 0 ++ m)) (Poly.gen n)).2) = _
  unfold divI Enc.rst
  rw [Enc.dvA_rs, Enc.rs_cut _ (by omega)]
theorem encL_drop_rst (m : List Nat) (n : Nat) : Enc.rst m n ++ (List.replicate (2 * n) 0 ++ m).drop (Enc.rst m n).length = Enc.encL m n ∨ 2 * n < (Enc.rst m n).length := by
  by_cases h : 2 * n < (Enc.rst m n).length
  · exact .inr h
  · refine .inl ?_
    unfold Enc.encL
    rw [List.drop_append_of_le_length (by rw [List.length_replicate]; omega), List.drop_replicate, List.append_assoc]

theorem spec_EncodeWord_l0 (out rest : List Nat) (h : rest.length ≤ out.length) (hb : out.length ≤ 1000) : ∀ d i : Nat, i + d = rest.length → Ev (fun k => spec_EncodeWord.l0 k (Poly.up (rest.take i ++ out.drop i)) (Poly.up rest) ((Poly.up rest).length : Int) (i : Int)) (Poly.up (rest ++ out.drop rest.length), true) := by
  intro d
  induction d with
  | zero =>
    intro i hi
    obtain rfl : i = rest.length := by omega
    rw [List.take_length]
    exact Ev.step (f := fun _ => some (Poly.up (rest ++ out.drop rest.length), true)) (fun k => by rw [spec_EncodeWord.l0.eq_2, if_neg (by rw [Poly.up_length]; omega)]) (Ev.now _)
  | succ d ih =>
    intro i hi
    have hl : (rest.take i ++ out.drop i).length = out.length := by rw [List.length_append, List.length_take, List.length_drop]; omega
    have hir : i < rest.length := by omega
    have hs : (rest.take i ++ out.drop i).set i (rest.getD i 0) = rest.take (i + 1) ++ out.drop (i + 1) := by
      rw [List.set_append_right _ _ (by rw [List.length_take]; omega), List.length_take, show i - min i rest.length = 0 by omega, List.drop_eq_getElem_cons (show i < out.length by omega), List.set_cons_zero,
        List.take_succ_eq_append_getElem hir, List.append_assoc, List.getD_eq_getElem?_getD, List.getElem?_eq_getElem hir]; rfl
    refine Ev.step (f := fun k => spec_EncodeWord.l0 k (Poly.up (rest.take (i + 1) ++ out.drop (i + 1))) (Poly.up rest) ((Poly.up rest).length : Int) ((i + 1 : Nat) : Int)) (fun k => ?_) (ih (i + 1) (by omega))
    rw [spec_EncodeWord.l0.eq_2, if_pos (by rw [Poly.up_length]; omega), if_pos (by omega), if_pos (by rw [Poly.up_length]; omega), if_pos (by rw [Poly.up_length, hl]; omega), Poly.rd_up, Int.toNat_natCast, Poly.up_set, hs, wrap_succ i (by omega)]
theorem spec_EncodeWord_ev (l : List Int) (w : Int) (hl : l.length ≤ 1048576) : Ev (fun k => spec_EncodeWord.f k l w) (wEncV l w) := by
  have J1 : Ev (fun k => spec_EncodeWord.j0 k l w true) (([] : List Int), false) := Ev.step (f := fun _ => some (([] : List Int), false)) (fun k => by rw [spec_EncodeWord.j0.eq_2, if_pos rfl]) (Ev.now _)
  unfold spec_EncodeWord.f wEncV wEncOk
  simp only [spec_l4Wrong_eq, spec_l1In_eq, Option.bind_some]
  cases h1 : isW w with
  | false =>
    simp only [Bool.false_eq_true, if_false, Bool.false_and]
    exact J1
  | true =>
    obtain ⟨n, rfl, h2, h3⟩ := isW_nat h1
    have e : wrap64 (24 - wrap64 (2 * (n : Int))) = 24 - 2 * (n : Int) := by
      rw [wrap_id (n := 2 * (n : Int)) (by omega) (by omega), wrap_id (by omega) (by omega)]
    have e2 : decide ((1 : Int) ≤ (l.length : Int) ∧ (l.length : Int) ≤ wrap64 (24 - wrap64 (2 * (n : Int)))) = decide (1 ≤ l.length ∧ (l.length : Int) + 2 * (n : Int) ≤ 24) := by
      rw [e]; exact decide_eq_decide.2 (by omega)
    simp only [if_true, e2, Bool.true_and]
    cases h4 : decide (1 ≤ l.length ∧ (l.length : Int) + 2 * (n : Int) ≤ 24) with
    | false =>
      simp only [Bool.false_eq_true, if_false, Bool.false_and]
      exact J1
    | true =>
      rw [decide_eq_true_eq] at h4
      simp only [if_true, Bool.true_and]
      refine Ev.bind (spec_l1All_ev l (by omega)) ?_
      cases h5 : l.all isB with
      | false =>
        simp only [Bool.not_false, Bool.false_eq_true, if_false]
        exact J1
      | true =>
        obtain ⟨m, rfl, hm⟩ := allB_up h5
        simp only [Bool.not_true, if_true]
        rw [Poly.up_length] at h4
        rw [toNat_up, Int.toNat_natCast]
        have ew : wrap64 (2 * (n : Int)) = ((2 * n : Nat) : Int) := by rw [wrap_id (by omega) (by omega)]; omega
        have hrl := Enc.rst_length hm n
        have e9 := (encL_drop_rst m n).resolve_right (by omega)
        have H0 := spec_EncodeWord_l0 (List.replicate (2 * n) 0 ++ m) (Enc.rst m n) (by rw [List.length_append, List.length_replicate]; omega) (by rw [List.length_append, List.length_replicate]; omega) (Enc.rst m n).length 0 (by omega)
        rw [List.take_zero, List.drop_zero, List.nil_append, e9] at H0
        refine Ev.step (f := fun k => (spec_l1Cut.f k (Poly.up (List.replicate (2 * n) 0 ++ m))).bind fun t219 => (spec_l4Generator.f k (n : Int)).bind fun t222 => (spec_DivPoly.f k t219 t222).bind fun bt225 => spec_EncodeWord.l0 k (Poly.up (List.replicate (2 * n) 0 ++ m)) bt225.2.1 (bt225.2.1.length : Int) 0) (fun k => ?_) ?_
        · rw [spec_EncodeWord.j0.eq_2, if_neg (by decide), ew, if_pos (by omega), if_pos (by omega), Option.bind_some, Int.toNat_natCast, if_pos (by rw [List.length_replicate, Poly.up_length]; omega), Option.bind_some, Poly.up_zeros, Poly.up_append]
        · refine Ev.bind (spec_l1Cut_ev _ (by rw [List.length_append, List.length_replicate]; omega)) ?_
          refine Ev.bind (spec_l4Generator_ev n (by omega)) ?_
          refine Ev.bind (spec_DivPoly_ev _ _) ?_
          rw [rst_divS hm n (by omega)]
          exact H0

/-- Are all 0? -/
def zeroL (l : List Nat) : Bool := l.all (· == 0)

/-- What IsWord answers. -/
def wordV (l : List Int) (w : Int) : Bool × Bool := if isLg l w then (zeroL (synL (l.map Int.toNat) (2 * w.toNat)), true) else (false, false)

theorem synL_syl (m : List Nat) (n : Nat) : synL m n = Enc.syl m n := List.map_congr_left fun k _ => Pev.gev_pe m _
theorem zeroL_zer (l : List Nat) : zeroL l = Enc.zer l := rfl
theorem up_isLg {m : List Nat} {n : Nat} (hm : Poly.AllB m) (h1 : 1 ≤ n) (h3 : n ≤ 3) (h4 : 2 * n < m.length) (h5 : m.length ≤ 24) : isLg (Poly.up m) (n : Int) = true := by
  unfold isLg isW
  rw [up_allB hm, Poly.up_length, decide_eq_true (by omega), decide_eq_true (by omega)]; rfl

theorem wordV_up {m : List Nat} {n : Nat} (h : isLg (Poly.up m) (n : Int) = true) : wordV (Poly.up m) (n : Int) = (Enc.zer (Enc.syl m (2 * n)), true) := by
  unfold wordV
  rw [if_pos h, toNat_up, Int.toNat_natCast, synL_syl, zeroL_zer]
theorem synV_up {m : List Nat} {n : Nat} (h : isLg (Poly.up m) (n : Int) = true) : synV (Poly.up m) (n : Int) = (Poly.up (Enc.syl m (2 * n)), true) := by
  unfold synV
  rw [if_pos h, toNat_up, Int.toNat_natCast, synL_syl]

/-- The places, counted from i on, at which two lists are unlike. -/
def difL : Nat → List Int → List Int → List Int
  | i, x :: a, y :: b => if x = y then difL (i + 1) a b else (i : Int) :: difL (i + 1) a b
  | _, _, _ => []
theorem difL_length : ∀ (a b : List Int) (i : Nat), (difL i a b).length ≤ a.length
  | [], _, _ => by simp [difL]
  | _ :: _, [], _ => by simp [difL]
  | x :: a, y :: b, i => by
    unfold difL
    have := difL_length a b (i + 1)
    split <;> simp <;> omega

theorem difL_difs : ∀ (a b : List Nat) (i : Nat), a.length = b.length → difL i (Poly.up a) (Poly.up b) = (Enc.difs a b).map fun j => ((i + j : Nat) : Int)
  | [], [], _, _ => rfl
  | [], _ :: _, _, h => by cases h
  | _ :: _, [], _, h => by cases h
  | x :: a, y :: b, i, h => by
    have ih := difL_difs a b (i + 1) (by simpa using h)
    have e2 : Enc.difs (x :: a) (y :: b) = (if (x != y) = true then [0] else []) ++ (Enc.difs a b).map Nat.succ := by
      unfold Enc.difs
      rw [List.length_cons, List.range_succ_eq_map, List.filter_cons, List.filter_map]
      cases hxy : (x != y) <;> simp [hxy, Function.comp_def]
    have e3 : ((fun j => ((i + j : Nat) : Int)) ∘ Nat.succ) = fun j => ((i + 1 + j : Nat) : Int) := by
      funext j; show ((i + (j + 1) : Nat) : Int) = _; congr 1; omega
    show (if (x : Int) = (y : Int) then difL (i + 1) (Poly.up a) (Poly.up b) else (i : Int) :: difL (i + 1) (Poly.up a) (Poly.up b)) = _
    rw [ih, e2, List.map_append, List.map_map, e3]
    by_cases hxy : x = y
    · subst hxy; simp
    · rw [if_neg (by omega)]
      have : (x != y) = true := by rw [bne_iff_ne]; exact hxy
      rw [if_pos this]; simp

/-- What WrongPlaces answers. -/
def placesV (a b : List Int) : List Int × Bool := if a.length = b.length ∧ a.length ≤ 24 then (difL 0 a b, true) else ([], false)
theorem placesV_length (a b : List Int) : (placesV a b).1.length ≤ a.length := by
  unfold placesV
  split
  · exact difL_length a b 0
  · simp

/-- A message's word is one, as long as said, with the message behind. -/
theorem enc_word {l : List Int} {w : Int} (h : wEncOk l w = true) : wordV (wEncV l w).1 w = (true, true) ∧ ((wEncV l w).1.length : Int) = l.length + 2 * w ∧ (wEncV l w).1.drop (2 * w.toNat) = l := by
  obtain ⟨x, n, rfl, rfl, hx, h1, h3, h4, h5⟩ := wEncOk_up h
  rw [wEncV_up h]
  have hl := Enc.encL_length hx n
  have hB := Enc.encL_Bs hx n
  refine ⟨?_, ?_, ?_⟩
  · show wordV (Poly.up (Enc.encL x n)) (n : Int) = _
    rw [wordV_up (up_isLg hB h1 h3 (by omega) (by omega)), (Enc.zer_syl).2 fun k hk => Enc.encL_eval hx hk]
  · show ((Poly.up (Enc.encL x n)).length : Int) = _
    rw [Poly.up_length, Poly.up_length, hl]; omega
  · show (Poly.up (Enc.encL x n)).drop _ = _
    rw [Int.toNat_natCast, Poly.up_drop, Enc.encL_drop hx]
theorem wordV_true {l : List Int} {w : Int} (h : wordV l w = (true, true)) : ∃ (m : List Nat) (n : Nat), l = Poly.up m ∧ w = (n : Int) ∧ Poly.AllB m ∧ 1 ≤ n ∧ n ≤ 3 ∧ 2 * n < m.length ∧ m.length ≤ 24 ∧ ∀ k, k < 2 * n → Root.pe m (Gf.pw 2 k) = 0 := by
  have hg : isLg l w = true := by
    unfold wordV at h
    split at h
    · assumption
    · cases h
  obtain ⟨m, n, rfl, rfl, hm, h1, h3, h4, h5⟩ := isLg_up hg
  rw [wordV_up hg] at h
  injection h with h _
  exact ⟨m, n, rfl, rfl, hm, h1, h3, h4, h5, Enc.zer_syl.1 h⟩
theorem placesV_up {a b : List Nat} (hl : a.length = b.length) (h : a.length ≤ 24) : placesV (Poly.up a) (Poly.up b) = ((Enc.difs a b).map (fun j => ((0 + j : Nat) : Int)), true) := by
  unfold placesV
  rw [if_pos (by rw [Poly.up_length, Poly.up_length]; exact ⟨hl, h⟩), difL_difs a b 0 hl]
/-- Another message's word is far. -/
theorem other_word {l : List Int} {w : Int} (h : wordV l w = (true, true)) (d : Nat) (hd1 : 1 ≤ d) (hd : d ≤ 255) :
    ∃ (m : List Nat) (n : Nat), l = Poly.up m ∧ w = (n : Int) ∧ 1 ≤ n ∧ n ≤ 3 ∧ 2 * n < m.length ∧ m.length ≤ 24 ∧ Poly.AllB m ∧ wEncOk (Poly.up ((m.drop (2 * n)).set 0 (m.getD (2 * n) 0 ^^^ d))) (n : Int) = true ∧
      ∃ p, placesV (wEncV (Poly.up ((m.drop (2 * n)).set 0 (m.getD (2 * n) 0 ^^^ d))) (n : Int)).1 l = (p, true) ∧ 2 * n < p.length := by
  obtain ⟨m, n, rfl, rfl, hm, h1, h3, h4, h5, hz⟩ := wordV_true h
  have hg := hm.get (2 * n)
  have hb : Poly.AllB ((m.drop (2 * n)).set 0 (m.getD (2 * n) 0 ^^^ d)) := (hm.drop _).set 0 (Gf.xor_byte hg (by omega))
  have hl : ((m.drop (2 * n)).set 0 (m.getD (2 * n) 0 ^^^ d)).length = m.length - 2 * n := by rw [List.length_set, List.length_drop]
  have hok := up_wEncOk (n := n) hb h1 h3 (by omega) (by omega)
  refine ⟨m, n, rfl, rfl, h1, h3, h4, h5, hm, hok, ?_⟩
  rw [wEncV_up hok]
  have hel := Enc.encL_length hb n
  rw [hl] at hel
  have hll : (Enc.encL ((m.drop (2 * n)).set 0 (m.getD (2 * n) 0 ^^^ d)) n).length = m.length := by omega
  refine ⟨_, placesV_up hll (by omega), ?_⟩
  rw [List.length_map]
  refine Enc.far (Enc.encL_Bs hb n) hm hll (by omega) (fun k hk => Enc.encL_eval hb hk) hz ⟨2 * n, by omega, ?_⟩
  have e1 : (Enc.encL ((m.drop (2 * n)).set 0 (m.getD (2 * n) 0 ^^^ d)) n).getD (2 * n) 0 = m.getD (2 * n) 0 ^^^ d := by
    have e := congrArg (fun l : List Nat => l.getD 0 0) (Enc.encL_drop hb n)
    have e3 : ∀ L : List Nat, (L.drop (2 * n)).getD 0 0 = L.getD (2 * n) 0 := fun L => by rw [List.getD_eq_getElem?_getD, List.getElem?_drop, List.getD_eq_getElem?_getD]; rfl
    rw [← e3]
    refine e.trans ?_
    show ((m.drop (2 * n)).set 0 (m.getD (2 * n) 0 ^^^ d)).getD 0 0 = _
    rw [Pev.getD_set _ _ _ _ (by rw [List.length_drop]; omega), if_pos rfl]
  rw [e1]
  intro he
  have : m.getD (2 * n) 0 ^^^ (m.getD (2 * n) 0 ^^^ d) = 0 := by rw [he, Nat.xor_self]
  rw [← Nat.xor_assoc, Nat.xor_self, Nat.zero_xor] at this
  omega

theorem spec_l1Cur_spoiltWord_l0 {s : List Int} (hs : BY s) (t : Int) : ∀ (n : Nat) (l : List Int) (a d : Int), n ≤ 100 → 0 < l.length → 0 ≤ a → a ≤ 800000000000 - 4 * n →
    ∃ v a' d', Ev (fun k => spec_l1Cur_spoiltWord.l0 k t l (n : Int) s a d) (v, t, a', d') ∧ v.length = l.length ∧ 0 ≤ a' ∧ a' ≤ a + 4 * n := by
  intro n
  induction n with
  | zero =>
    intro l a d _ _ ha _
    exact ⟨l, a, d, Ev.step (f := fun _ => some (l, t, a, d)) (fun k => by rw [spec_l1Cur_spoiltWord.l0.eq_2, if_neg (by omega)]) (Ev.now _), rfl, ha, by omega⟩
  | succ n ih =>
    intro l a d hn hl ha hb
    obtain ⟨x, a1, d1, e1, h2, h3, h4, h5, h6⟩ := spec_l1Cur_pick_ex hs d (l.length : Int) ha (by omega)
    obtain ⟨y, a2, d2, e2, g2, g3, g4, g5, g6⟩ := spec_l1Cur_pick_ex hs d1 256 h5 (by omega)
    obtain ⟨v, a3, d3, E, q1, q3, q4⟩ := ih (l.set x.toNat y) a2 d2 (by omega) (by rw [List.length_set]; exact hl) g5 (by omega)
    refine ⟨v, a3, d3, ?_, by rw [q1, List.length_set], q3, by omega⟩
    refine Ev.step (f := fun k => spec_l1Cur_spoiltWord.l0 k t (l.set x.toNat y) (n : Int) s a2 d2) (fun k => ?_) E
    have ew : wrap64 (((n + 1 : Nat) : Int) - 1) = (n : Int) := by rw [wrap_in (by omega) (by omega)]; omega
    rw [spec_l1Cur_spoiltWord.l0.eq_2, if_pos (by omega), e1, Option.bind_some]
    simp only [e2, Option.bind_some]
    rw [if_pos h2, if_pos (by omega), ew]
theorem spec_l1Cur_spoiltWord_ex {s : List Int} (hs : BY s) {a : Int} (d : Int) (ha : 0 ≤ a) (hb : a ≤ 600000000000) :
    ∃ v t a' d', Ev (fun k => spec_l1Cur_spoiltWord.f k s a d) (v, t, a', d') ∧ v.length ≤ 24 ∧ 0 ≤ a' ∧ a' ≤ a + 1000 := by
  obtain ⟨w, a1, d1, e1, h2, h3, h4, h5, h6⟩ := spec_l1Cur_pick_ex hs d 3 ha (by omega)
  obtain ⟨x, a2, d2, e2, g2, g3, g4, g5, g6⟩ := spec_l1Cur_pick_ex hs d1 8 h5 (by omega)
  obtain ⟨n, rfl⟩ := nat_of g2
  obtain ⟨t, rfl⟩ := nat_of h2
  have ew : wrap64 (1 + (n : Int)) = ((1 + n : Nat) : Int) := by rw [wrap_in (by omega) (by omega)]; omega
  have et : wrap64 (1 + (t : Int)) = ((1 + t : Nat) : Int) := by rw [wrap_in (by omega) (by omega)]; omega
  have et2 : wrap64 (((1 + t : Nat) : Int) + 2) = ((3 + t : Nat) : Int) := by rw [wrap_in (by omega) (by omega)]; omega
  obtain ⟨m, a3, d3, E3, k1, k2, k3, k4⟩ := spec_l1Cur_elements_ex hs d2 (1 + n) (by omega) g5 (by omega)
  have hok : wEncOk m ((1 + t : Nat) : Int) = true := by
    obtain ⟨z, rfl, hz⟩ := allB_up k2
    rw [Poly.up_length] at k1
    exact up_wEncOk hz (by omega) (by omega) (by omega) (by omega)
  have E4 := spec_EncodeWord_ev m ((1 + t : Nat) : Int) (by omega)
  have hlen := wEncV_length m ((1 + t : Nat) : Int)
  have hpos : 0 < (wEncV m ((1 + t : Nat) : Int)).1.length := by have := (enc_word hok).2.1; omega
  have htr : (wEncV m ((1 + t : Nat) : Int)).2 = true := by unfold wEncV; rw [if_pos hok]
  obtain ⟨y, a5, d5, e5, j2, j3, j4, j5, j6⟩ := spec_l1Cur_pick_ex hs d3 ((3 + t : Nat) : Int) k3 (by omega)
  obtain ⟨q, rfl⟩ := nat_of j2
  obtain ⟨v, a6, d6, E6, q1, q2, q3⟩ := spec_l1Cur_spoiltWord_l0 hs ((1 + t : Nat) : Int) q (wEncV m ((1 + t : Nat) : Int)).1 a5 d5 (by omega) hpos j5 (by omega)
  refine ⟨v, ((1 + t : Nat) : Int), a6, d6, ?_, by omega, q2, by omega⟩
  unfold spec_l1Cur_spoiltWord.f
  simp only [e1, e2, Option.bind_some, ew, et]
  refine Ev.bind E3 ?_
  refine Ev.bind E4 ?_
  simp only [htr, if_true, et2, e5, Option.bind_some]
  exact E6

theorem spec_DrawLocatorOf_ex {s : List Int} (hs : BY s) : ∃ v, Ev (fun k => spec_DrawLocatorOf.f k s) v ∧ v.length ≤ 24 := by
  obtain ⟨b, a1, d1, e1, h1, h2⟩ := spec_l1Cur_one_ex hs (a := 0) 0 12 (by omega) (by omega)
  cases b with
  | true =>
    obtain ⟨x, a2, d2, e2, g2, g3, g4, g5, g6⟩ := spec_l1Cur_pick_ex hs d1 8 h1 (by omega)
    obtain ⟨n, rfl⟩ := nat_of g2
    obtain ⟨m, a3, d3, E3, k1, k2, k3, k4⟩ := spec_l1Cur_elements_ex hs d2 n (by omega) g5 (by omega)
    refine ⟨m, ?_, by omega⟩
    unfold spec_DrawLocatorOf.f
    simp only [e1, e2, Option.bind_some, if_true]
    exact Ev.bind E3 (Ev.now _)
  | false =>
    obtain ⟨v, t, a2, d2, E2, g1, g2, g3⟩ := spec_l1Cur_spoiltWord_ex hs d1 h1 (by omega)
    refine ⟨(synV v t).1, ?_, by have := synV_length v t; omega⟩
    unfold spec_DrawLocatorOf.f
    simp only [e1, Option.bind_some, Bool.false_eq_true, if_false]
    refine Ev.bind E2 ?_
    exact Ev.bind (spec_SyndromesOf_ev v t (by omega)) (Ev.now _)

theorem impl_areGf_eq (l : List Int) : impl_areGf.f l = some (l.all isB) := by
  unfold impl_areGf.f
  have e : impl_areGf.bad = fun n => !isB n := by
    funext n
    simp only [impl_areGf.bad, isB]
  rw [e, List.all_eq_not_any_not]



theorem impl_mul_l0 : ∀ (n a b o : Nat), a < 256 → o < 256 → b < 2 ^ n → b < 2 ^ 63 → Ev (fun k => impl_mul.l0 k (a : Int) (b : Int) (o : Int)) ((Gf.gmA n a b o : Nat) : Int) := by
  have stop : ∀ a o : Nat, Ev (fun k => impl_mul.l0 k (a : Int) ((0 : Nat) : Int) (o : Int)) ((o : Nat) : Int) := fun a o =>
    Ev.step (f := fun _ => some ((o : Nat) : Int)) (fun k => by simp only [impl_mul.l0]; rw [if_neg (by omega)]) (Ev.now _)
  intro n
  induction n with
  | zero =>
    intro a b o ha ho hb _
    obtain rfl : b = 0 := by simpa using hb
    exact stop a o
  | succ n ih =>
    intro a b o ha ho hb hb63
    by_cases h0 : b = 0
    · subst h0
      rw [Gf.gmA_zero]
      exact stop a o
    · have e1 : wrap64 ((a : Int) * 2) = ((a * 2 : Nat) : Int) := by rw [wrap_id (by omega) (by omega)]; omega
      have e2 : Go.bits .xor .i64 ((a * 2 : Nat) : Int) 285 = (((a * 2) ^^^ 285 : Nat) : Int) := xor_nat (a := a * 2) (b := 285) (by omega) (by decide)
      have e3 : Go.bits .xor .i64 (o : Int) (a : Int) = ((o ^^^ a : Nat) : Int) := xor_nat (by omega) (by omega)
      have e4 := and_one (a := b) hb63
      refine Ev.step (f := fun k => impl_mul.l0 k ((Gf.xt a : Nat) : Int) ((b / 2 : Nat) : Int) (((if b % 2 = 1 then o ^^^ a else o) : Nat) : Int)) (fun k => ?_) (ih _ _ _ (Gf.xt_lt a ha) ?_ (by rw [Nat.pow_succ] at hb; omega) (by omega))
      · simp only [impl_mul.l0, e1, e2, e3, e4, half_nat, Gf.xt]
        rw [if_pos (show (b : Int) > 0 by omega)]
        by_cases h1 : b % 2 = 1 <;> by_cases h2 : 255 < a * 2
        · rw [if_pos (show ((b % 2 : Nat) : Int) = 1 by omega), if_pos h1, if_pos (by omega), if_pos h2]
        · rw [if_pos (show ((b % 2 : Nat) : Int) = 1 by omega), if_pos h1, if_neg (by omega), if_neg h2]
        · rw [if_neg (show ¬ ((b % 2 : Nat) : Int) = 1 by omega), if_neg h1, if_pos (by omega), if_pos h2]
        · rw [if_neg (show ¬ ((b % 2 : Nat) : Int) = 1 by omega), if_neg h1, if_neg (by omega), if_neg h2]
      · split
        · exact Gf.xor_byte ho ha
        · exact ho
theorem impl_mul_ev (a b : Nat) (ha : a < 256) (hb : b < 256) : Ev (fun k => impl_mul.f k (a : Int) (b : Int)) ((Gf.gm a b : Nat) : Int) :=
  impl_mul_l0 8 a b 0 ha (by decide) hb (by omega)

theorem impl_pow_l0 : ∀ (f a n o : Nat), a < 256 → o < 256 → n < 2 ^ f → n < 2 ^ 63 → Ev (fun k => impl_pow.l0 k (a : Int) (n : Int) (o : Int)) ((Gf.pwA f a n o : Nat) : Int) := by
  have stop : ∀ a o : Nat, Ev (fun k => impl_pow.l0 k (a : Int) ((0 : Nat) : Int) (o : Int)) ((o : Nat) : Int) := fun a o =>
    Ev.step (f := fun _ => some ((o : Nat) : Int)) (fun k => by simp only [impl_pow.l0]; rw [if_neg (by omega)]) (Ev.now _)
  have z : ∀ f a o, Gf.pwA f a 0 o = o := by
    intro f
    induction f with
    | zero => intro a o; rfl
    | succ f ih => intro a o; exact ih _ _
  intro f
  induction f with
  | zero =>
    intro a n o ha ho hn _
    obtain rfl : n = 0 := by simpa using hn
    exact stop a o
  | succ f ih =>
    intro a n o ha ho hn hn63
    by_cases h0 : n = 0
    · subst h0
      rw [z]
      exact stop a o
    · have e4 := and_one (a := n) hn63
      have hsq := Gf.gm_lt a ha
      by_cases h1 : n % 2 = 1
      · refine Ev.step (f := fun k => (impl_mul.f k (o : Int) (a : Int)).bind fun t => (impl_mul.f k (a : Int) (a : Int)).bind fun u => impl_pow.l0 k u ((n / 2 : Nat) : Int) t) (fun k => ?_) ?_
        · simp only [impl_pow.l0, e4, half_nat]
          rw [if_pos (show (n : Int) > 0 by omega), if_pos (show ((n % 2 : Nat) : Int) = 1 by omega)]
        · have := ih (Gf.gm a a) (n / 2) (Gf.gm o a) hsq (Gf.gm_lt a ho) (by rw [Nat.pow_succ] at hn; omega) (by omega)
          show Ev _ ((Gf.pwA f (Gf.gm a a) (n / 2) (if n % 2 = 1 then Gf.gm o a else o) : Nat) : Int)
          rw [if_pos h1]
          exact Ev.bind (f := fun k t => (impl_mul.f k (a : Int) (a : Int)).bind fun u => impl_pow.l0 k u ((n / 2 : Nat) : Int) t) (impl_mul_ev o a ho ha) (Ev.bind (f := fun k u => impl_pow.l0 k u ((n / 2 : Nat) : Int) ((Gf.gm o a : Nat) : Int)) (impl_mul_ev a a ha ha) this)
      · refine Ev.step (f := fun k => (impl_mul.f k (a : Int) (a : Int)).bind fun u => impl_pow.l0 k u ((n / 2 : Nat) : Int) (o : Int)) (fun k => ?_) ?_
        · simp only [impl_pow.l0, e4, half_nat]
          rw [if_pos (show (n : Int) > 0 by omega), if_neg (show ¬ ((n % 2 : Nat) : Int) = 1 by omega)]
        · have := ih (Gf.gm a a) (n / 2) o hsq ho (by rw [Nat.pow_succ] at hn; omega) (by omega)
          show Ev _ ((Gf.pwA f (Gf.gm a a) (n / 2) (if n % 2 = 1 then Gf.gm o a else o) : Nat) : Int)
          rw [if_neg h1]
          exact Ev.bind (f := fun k u => impl_pow.l0 k u ((n / 2 : Nat) : Int) (o : Int)) (impl_mul_ev a a ha ha) this
theorem impl_pow_ev (a n : Nat) (ha : a < 256) (hn : n < 2 ^ 62) : Ev (fun k => impl_pow.f k (a : Int) (n : Int)) ((Gf.pw a n : Nat) : Int) := by
  have := impl_pow_l0 62 a n 1 ha (by decide) hn (by omega)
  rw [Gf.pwA_eq 62 a n 1 ha (by decide) hn, Gf.one_gm _ (Gf.pw_lt n)] at this
  exact this

theorem impl_inverse_ev (b : Nat) (hb : b < 256) : Ev (fun k => impl_inverse.f k (b : Int)) ((Gf.gi b : Nat) : Int) := by
  unfold impl_inverse.f
  exact Ev.bind (f := fun _ u => some u) (impl_pow_ev b 254 hb (by decide)) (Ev.now _)

theorem impl_trimmed_l0 (l : List Nat) (hl : l.length ≤ 1000000) : ∀ n, n ≤ l.length → Ev (fun k => impl_trimmed.l0 k (Poly.up l) (n : Int)) (Poly.up (Poly.trN l n)) := by
  intro n
  induction n with
  | zero =>
    intro _
    refine Ev.step (f := fun _ => some (Poly.up (Poly.trN l 0))) (fun k => ?_) (Ev.now _)
    simp only [impl_trimmed.l0, Poly.up_length]
    rw [if_neg (by omega), if_pos (by omega), if_pos (by omega)]
    rfl
  | succ n ih =>
    intro hn
    have hw : wrap64 (((n + 1 : Nat) : Int) - 1) = (n : Int) := by rw [wrap_pred _ (by omega) (by omega)]; rfl
    unfold Poly.trN
    by_cases h : l.getD n 0 = 0
    · rw [if_pos h]
      refine Ev.step (f := fun k => impl_trimmed.l0 k (Poly.up l) (n : Int)) (fun k => ?_) (ih (by omega))
      simp only [impl_trimmed.l0, Poly.up_length, hw, Poly.rd_up, h]
      rw [if_pos (by omega), if_pos (by omega), if_pos (by omega), if_pos (by omega)]
    · rw [if_neg h]
      refine Ev.step (f := fun _ => some (Poly.up (l.take (n + 1)))) (fun k => ?_) (Ev.now _)
      simp only [impl_trimmed.l0, Poly.up_length, hw, Poly.rd_up]
      rw [if_pos (by omega), if_pos (by omega), if_pos (by omega), if_neg (by omega), if_pos (by omega), if_pos (by omega), Int.toNat_natCast, Poly.up_take]
theorem impl_trimmed_ev (l : List Nat) (hl : l.length ≤ 1000000) : Ev (fun k => impl_trimmed.f k (Poly.up l)) (Poly.up (Poly.tr l)) := by
  have := impl_trimmed_l0 l hl l.length (Nat.le_refl _)
  unfold impl_trimmed.f
  rw [Poly.up_length]
  exact this

/-- The loop over the terms of a discrepancy. -/
theorem impl_locator_l1 (s : List Nat) (hs : Poly.AllB s) (hl : s.length ≤ 100) {k : Nat} (hk : k < s.length) {t : Bm.St} (h : Bm.Inv s k t) {R : List Int} (hj : Ev (fun r => impl_locator.j2 r (Poly.up s) (Poly.up t.c) (Poly.up t.b) (t.long : Int) (t.m : Int) (t.last : Int) (k : Int) ((Bm.disc s t k : Nat) : Int) (s.length : Int) (k : Int)) R) :
    ∀ d i : Nat, i + d = min (t.long + 1) t.c.length → Ev (fun r => impl_locator.l1 r (Poly.up s) (Poly.up t.c) (Poly.up t.b) (t.long : Int) (t.m : Int) (t.last : Int) (k : Int) ((Lin.xs i (fun i => Gf.gm (t.c.getD i 0) (s.getD (k - i) 0)) : Nat) : Int) (i : Int) (s.length : Int) (k : Int)) R := by
  have hlk := h.lk
  have hsz := h.sz
  intro d
  induction d with
  | zero =>
    intro i hi
    obtain rfl : i = min (t.long + 1) t.c.length := by omega
    refine Ev.step (fun k => impl_locator.l1.eq_2 _ _ _ _ _ _ _ _ _ _ _ k) ?_
    by_cases h1 : min (t.long + 1) t.c.length ≤ t.long
    · have z1 : ((min (t.long + 1) t.c.length : Nat) : Int) ≤ (t.long : Int) := by omega
      have z2 : ¬ ((min (t.long + 1) t.c.length : Nat) : Int) < (t.c.length : Int) := by omega
      simp only [Poly.up_length, if_pos z1, if_neg z2]
      exact hj
    · have z1 : ¬ ((min (t.long + 1) t.c.length : Nat) : Int) ≤ (t.long : Int) := by omega
      simp only [if_neg z1]
      exact hj
  | succ d ih =>
    intro i hi
    have z1 : (i : Int) ≤ (t.long : Int) := by omega
    have z2 : (i : Int) < (t.c.length : Int) := by omega
    have z3 : (0 : Int) ≤ (i : Int) := by omega
    have z4 : (0 : Int) ≤ ((k - i : Nat) : Int) := by omega
    have z5 : ((k - i : Nat) : Int) < (s.length : Int) := by omega
    have hg := Pev.getD_lt h.cb i
    have hx : Lin.xs i (fun i => Gf.gm (t.c.getD i 0) (s.getD (k - i) 0)) < 256 := Lin.xs_lt fun j _ => Gf.gm_lt _ (Pev.getD_lt h.cb j)
    refine Ev.step (fun k => impl_locator.l1.eq_2 _ _ _ _ _ _ _ _ _ _ _ k) ?_
    simp only [Poly.up_length, Poly.rd_up, if_pos z1, if_pos z2, if_pos z3, wrap_sub k i (by omega) (by omega), if_pos z4, if_pos z5, wrap_up i (by omega)]
    refine Ev.bind (impl_mul_ev _ _ hg (hs.get (k - i))) ?_
    rw [xor_up hx (Gf.gm_lt _ hg)]
    exact ih (i + 1) (by omega)
/-- The loop that adds. -/
theorem impl_locator_l2 (s : List Nat) (k dd f : Nat) (t : Bm.St) (hf : f < 256) (hb : Poly.AllB t.b) (hm : t.m ≤ 1000) (hbl : t.b.length ≤ 1000) {R : List Int} : ∀ (d j : Nat) (out : List Nat), j + d = t.b.length → Poly.AllB out → t.m + t.b.length ≤ out.length → out.length ≤ 5000 →
    (∀ o2, o2 = Poly.mrow f (t.b.drop j) (t.m + j) out → Ev (fun r => impl_locator.l2 r (Poly.up s) (Poly.up t.c) (Poly.up t.b) (t.long : Int) (t.m : Int) (t.last : Int) (k : Int) (dd : Int) (f : Int) (Poly.up o2) (s.length : Int) (k : Int) (Poly.up t.b) (t.b.length : Int) (t.b.length : Int)) R) →
    Ev (fun r => impl_locator.l2 r (Poly.up s) (Poly.up t.c) (Poly.up t.b) (t.long : Int) (t.m : Int) (t.last : Int) (k : Int) (dd : Int) (f : Int) (Poly.up out) (s.length : Int) (k : Int) (Poly.up t.b) (t.b.length : Int) (j : Int)) R := by
  intro d
  induction d with
  | zero =>
    intro j out hj ho hl hl2 hend
    obtain rfl : j = t.b.length := by omega
    exact hend out (by rw [List.drop_length]; rfl)
  | succ d ih =>
    intro j out hj ho hl hl2 hend
    have hjl : j < t.b.length := by omega
    have z1 : (j : Int) < (t.b.length : Int) := by omega
    have z2 : (0 : Int) ≤ (j : Int) := by omega
    have z3 : (0 : Int) ≤ ((j + t.m : Nat) : Int) := by omega
    have z4 : ((j + t.m : Nat) : Int) < (out.length : Int) := by omega
    have hx := xor_up (ho.get (j + t.m)) (Gf.gm_lt (t.b.getD j 0) hf)
    refine Ev.step (fun k => impl_locator.l2.eq_2 _ _ _ _ _ _ _ _ _ _ _ _ _ _ _ k) ?_
    simp only [Poly.rd_up, Poly.up_length, if_pos z1, if_pos z2, wrap_addn j t.m (by omega), if_pos z3, if_pos z4, wrap_up j (by omega), Int.toNat_natCast]
    refine Ev.bind (impl_mul_ev f (t.b.getD j 0) hf (hb.get j)) ?_
    simp only [hx, Poly.up_set]
    refine ih (j + 1) (out.set (j + t.m) (out.getD (j + t.m) 0 ^^^ Gf.gm f (t.b.getD j 0))) (by omega) (ho.set _ (Gf.xor_byte (ho.get _) (Gf.gm_lt _ hf))) (by rw [List.length_set]; exact hl) (by rw [List.length_set]; exact hl2) fun o2 h2 => hend o2 ?_
    rw [h2, drop_getD t.b j hjl, show t.m + (j + 1) = t.m + j + 1 by omega, Nat.add_comm j t.m]
    rfl
theorem impl_locator_l0 (s : List Nat) (hs : Poly.AllB s) (hl : s.length ≤ 100) : ∀ (d k : Nat) (t : Bm.St), k + d = s.length → Bm.Inv s k t →
    Ev (fun r => impl_locator.l0 r (Poly.up s) (Poly.up t.c) (Poly.up t.b) (t.long : Int) (t.m : Int) (t.last : Int) (s.length : Int) (k : Int)) (Poly.up (Poly.tr (Bm.run s d k t).c)) := by
  intro d
  induction d with
  | zero =>
    intro k t hk h
    obtain rfl : k = s.length := by omega
    have hsz := h.sz
    have z : ¬ ((s.length : Nat) : Int) < ((s.length : Nat) : Int) := by omega
    refine Ev.step (fun k => impl_locator.l0.eq_2 _ _ _ _ _ _ _ _ k) ?_
    simp only [if_neg z]
    exact Ev.bind (impl_trimmed_ev t.c (by omega)) (Ev.now _)
  | succ d ih =>
    intro k t hk h
    have hlk := h.lk
    have hsz := h.sz
    have hmq := h.mq
    have hkl : k < s.length := by omega
    have z : (k : Int) < (s.length : Int) := by omega
    have ih' := ih (k + 1) (Bm.step s k t) (by omega) (Bm.inv_step hs h)
    have hd : Bm.disc s t k < 256 := Bm.disc_lt h.cb
    refine Ev.step (fun k => impl_locator.l0.eq_2 _ _ _ _ _ _ _ _ k) ?_
    simp only [if_pos z]
    refine impl_locator_l1 s hs hl hkl h ?_ (min (t.long + 1) t.c.length) 0 (by omega)
    refine Ev.step (fun k => impl_locator.j2.eq_2 _ _ _ _ _ _ _ _ _ _ k) ?_
    show Ev _ (Poly.up (Poly.tr (Bm.run s d (k + 1) (Bm.step s k t)).c))
    unfold Bm.step at ih' ⊢
    by_cases e : Bm.disc s t k = 0
    · have z2 : ((Bm.disc s t k : Nat) : Int) = 0 := by omega
      simp only [if_pos e] at ih' ⊢
      simp only [if_pos z2, wrap_up t.m (by omega), wrap_up k (by omega)]
      exact ih'
    · have z2 : ¬ ((Bm.disc s t k : Nat) : Int) = 0 := by omega
      simp only [if_neg e] at ih' ⊢
      simp only [if_neg z2]
      refine Ev.bind (impl_inverse_ev t.last h.lb) ?_
      refine Ev.bind (impl_mul_ev _ _ hd (Gf.gi_lt _)) ?_
      have e0 : mx 0 (wrap64 (wrap64 ((t.m : Int) + (t.b.length : Int)) - (t.c.length : Int))) = ((t.m + t.b.length - t.c.length : Nat) : Int) := by
        rw [wrap_addn t.m t.b.length (by omega), wrap_id (by omega) (by omega)]
        unfold mx
        split <;> omega
      have z3 : (0 : Int) ≤ ((t.m + t.b.length - t.c.length : Nat) : Int) := by omega
      have z4 : t.c.length + ((t.m + t.b.length - t.c.length : Nat) : Int).toNat < 17592186044416 := by rw [Int.toNat_natCast]; omega
      have z7 : (Poly.up t.c).length < 17592186044416 := by rw [Poly.up_length]; omega
      have hcl : slices_Clone_int_int.f (Poly.up t.c) = some (Poly.up t.c) := by
        unfold slices_Clone_int_int.f
        exact if_pos z7
      refine Ev.congr (f := fun r => impl_locator.l2 r (Poly.up s) (Poly.up t.c) (Poly.up t.b) (t.long : Int) (t.m : Int) (t.last : Int) (k : Int) ((Bm.disc s t k : Nat) : Int) ((Gf.gm (Bm.disc s t k) (Gf.gi t.last) : Nat) : Int) (Poly.up (t.c ++ List.replicate (t.m + t.b.length - t.c.length) 0)) (s.length : Int) (k : Int) (Poly.up t.b) (t.b.length : Int) ((0 : Nat) : Int)) (fun r => ?_) ?_
      · rw [hcl, Option.bind_some, Poly.up_length t.b, Poly.up_length t.c, e0, if_pos z3, if_pos z4, Int.toNat_natCast, Poly.up_zeros, Poly.up_append]; rfl
      refine impl_locator_l2 s k (Bm.disc s t k) (Gf.gm (Bm.disc s t k) (Gf.gi t.last)) t (Gf.gm_lt _ hd) h.bb (by omega) (by omega) t.b.length 0 _ (by omega) (Poly.AllB.append h.cb (Poly.AllB.zeros _)) (by rw [List.length_append, List.length_replicate]; omega) (by rw [List.length_append, List.length_replicate]; omega) fun o2 ho2 => ?_
      rw [List.drop_zero, Nat.add_zero] at ho2
      have ho3 : o2 = Bm.upd t.c t.b (Gf.gm (Bm.disc s t k) (Gf.gi t.last)) t.m := ho2
      rw [← ho3] at ih' ⊢
      have z8 : ¬ ((t.b.length : Nat) : Int) < ((t.b.length : Nat) : Int) := by omega
      refine Ev.step (fun k => impl_locator.l2.eq_2 _ _ _ _ _ _ _ _ _ _ _ _ _ _ _ k) ?_
      simp only [if_neg z8, wrap_up t.m (by omega), wrap_up k (by omega), wrap_two t.long (by omega)]
      by_cases e2 : 2 * t.long ≤ k
      · have z9 : ((2 * t.long : Nat) : Int) ≤ (k : Int) := by omega
        simp only [if_pos e2] at ih' ⊢
        simp only [if_pos z9, wrap_sub (k + 1) t.long (by omega) (by omega)]
        exact ih'
      · have z9 : ¬ ((2 * t.long : Nat) : Int) ≤ (k : Int) := by omega
        simp only [if_neg e2] at ih' ⊢
        simp only [if_neg z9]
        exact ih'
theorem impl_locator_ev (s : List Nat) (hs : Poly.AllB s) (hl : s.length ≤ 100) : Ev (fun r => impl_locator.f r (Poly.up s)) (Poly.up (Bm.loc s)) := by
  have := impl_locator_l0 s hs hl s.length 0 Bm.st0 (by omega) (Bm.inv0 s)
  unfold impl_locator.f
  rw [Poly.up_length]
  exact this

/-- What LocatorOf answers. -/
def locV (l : List Int) : List Int × Bool := if decide (l.length = 2 ∨ l.length = 4 ∨ l.length = 6) && l.all isB then (Poly.up (Bm.loc (l.map Int.toNat)), true) else ([], false)
theorem locV_length (l : List Int) : (locV l).1.length ≤ 8 := by
  unfold locV
  split
  · rename_i h
    simp only [Bool.and_eq_true, decide_eq_true_eq] at h
    obtain ⟨m, rfl, hm⟩ := allB_up h.2
    rw [Poly.up_length] at h
    have := Bm.loc_length (s := m) hm
    simp only [Poly.up_length, toNat_up]; omega
  · simp

theorem impl_LocatorOf_ev (l : List Int) : Ev (fun k => impl_LocatorOf.f k l) (locV l) := by
  have go : (l.length = 2 ∨ l.length = 4 ∨ l.length = 6) → Ev (fun k => if l.all isB = true then ((impl_locator.f k l).bind fun t => some (t, true)) else some (([] : List Int), false)) (if l.all isB = true then (Poly.up (Bm.loc (l.map Int.toNat)), true) else ([], false)) := by
    intro z2
    cases h : l.all isB
    · exact Ev.now _
    · obtain ⟨m, rfl, hm⟩ := allB_up h
      rw [Poly.up_length] at z2
      simp only [if_true, toNat_up]
      exact Ev.bind (impl_locator_ev m hm (by omega)) (Ev.now _)
  unfold impl_LocatorOf.f locV
  simp only [impl_areGf_eq, Option.bind_some]
  by_cases h2 : l.length = 2
  · have z : (l.length : Int) = 2 := by omega
    simp only [if_pos z, decide_eq_true (.inl h2 : l.length = 2 ∨ l.length = 4 ∨ l.length = 6), Bool.true_and]
    exact go (.inl h2)
  · have z : ¬ (l.length : Int) = 2 := by omega
    by_cases h4 : l.length = 4
    · have z4 : (l.length : Int) = 4 := by omega
      simp only [if_neg z, if_pos z4, decide_eq_true (.inr (.inl h4) : l.length = 2 ∨ l.length = 4 ∨ l.length = 6), Bool.true_and]
      exact go (.inr (.inl h4))
    · have z4 : ¬ (l.length : Int) = 4 := by omega
      by_cases h6 : l.length = 6
      · have z6 : (l.length : Int) = 6 := by omega
        simp only [if_neg z, if_neg z4, if_pos z6, decide_eq_true (.inr (.inr h6) : l.length = 2 ∨ l.length = 4 ∨ l.length = 6), Bool.true_and]
        exact go (.inr (.inr h6))
      · have z6 : ¬ (l.length : Int) = 6 := by omega
        have z2 : ¬ (l.length = 2 ∨ l.length = 4 ∨ l.length = 6) := by omega
        simp only [if_neg z, if_neg z4, if_neg z6, decide_eq_false z2, Bool.false_and]
        exact Ev.now _

theorem spec_l4Add_l1 (f m : Nat) (b : List Nat) (hf : f < 256) (hb : Poly.AllB b) (hm : m ≤ 1000) (hbl : b.length ≤ 1000) : ∀ (d j : Nat) (out : List Nat), j + d = b.length → Poly.AllB out → m + b.length ≤ out.length → out.length ≤ 5000 →
    Ev (fun r => spec_l4Add.l1 r (f : Int) (m : Int) (Poly.up out) (Poly.up b) (b.length : Int) (j : Int)) (Poly.up (Poly.mrow f (b.drop j) (m + j) out)) := by
  intro d
  induction d with
  | zero =>
    intro j out hj ho hl hl2
    obtain rfl : j = b.length := by omega
    rw [List.drop_length]
    exact Ev.step (f := fun _ => some (Poly.up out)) (fun k => by simp only [spec_l4Add.l1]; rw [if_neg (by omega)]) (Ev.now _)
  | succ d ih =>
    intro j out hj ho hl hl2
    have hjl : j < b.length := by omega
    have z1 : (j : Int) < (b.length : Int) := by omega
    have z2 : (0 : Int) ≤ (j : Int) := by omega
    have z3 : (0 : Int) ≤ ((j + m : Nat) : Int) := by omega
    have z4 : ((j + m : Nat) : Int) < (out.length : Int) := by omega
    have hx := xor_up (ho.get (j + m)) (Gf.gm_lt (b.getD j 0) hf)
    refine Ev.step (fun k => spec_l4Add.l1.eq_2 _ _ _ _ _ _ k) ?_
    simp only [Poly.rd_up, Poly.up_length, if_pos z1, if_pos z2, wrap_addn j m (by omega), if_pos z3, if_pos z4, wrap_up j (by omega), Int.toNat_natCast]
    refine Ev.bind (spec_l1Mul_ev f (b.getD j 0) hf (hb.get j)) ?_
    simp only [hx, Poly.up_set]
    rw [drop_getD b j hjl]
    unfold Poly.mrow
    rw [Nat.add_comm m j]
    have := ih (j + 1) (out.set (j + m) (out.getD (j + m) 0 ^^^ Gf.gm f (b.getD j 0))) (by omega) (ho.set _ (Gf.xor_byte (ho.get _) (Gf.gm_lt _ hf))) (by rw [List.length_set]; exact hl) (by rw [List.length_set]; exact hl2)
    rw [show m + (j + 1) = j + m + 1 by omega] at this
    exact this
theorem spec_l4Add_l0 (f m : Nat) (b c : List Nat) (hf : f < 256) (hb : Poly.AllB b) (hm : m ≤ 1000) (hbl : b.length ≤ 1000) (hc : Poly.AllB c) (hcl : c.length ≤ 1000) : ∀ (d n : Nat), n + d = m + b.length - c.length →
    Ev (fun r => spec_l4Add.l0 r (Poly.up b) (f : Int) (m : Int) (Poly.up (c ++ List.replicate n 0))) (Poly.up (Bm.upd c b f m)) := by
  intro d
  induction d with
  | zero =>
    intro n hn
    obtain rfl : n = m + b.length - c.length := by omega
    have hlen : (c ++ List.replicate (m + b.length - c.length) 0).length = c.length + (m + b.length - c.length) := by rw [List.length_append, List.length_replicate]
    have z : ¬ ((c ++ List.replicate (m + b.length - c.length) 0).length : Int) < ((b.length + m : Nat) : Int) := by omega
    refine Ev.step (fun k => spec_l4Add.l0.eq_2 _ _ _ _ k) ?_
    simp only [Poly.up_length, wrap_addn b.length m (by omega), if_neg z]
    have := spec_l4Add_l1 f m b hf hb hm hbl b.length 0 (c ++ List.replicate (m + b.length - c.length) 0) (by omega) (hc.append (Poly.AllB.zeros _)) (by omega) (by omega)
    rw [List.drop_zero, Nat.add_zero] at this
    exact this
  | succ d ih =>
    intro n hn
    have hlen : (c ++ List.replicate n 0).length = c.length + n := by rw [List.length_append, List.length_replicate]
    have z : ((c ++ List.replicate n 0).length : Int) < ((b.length + m : Nat) : Int) := by omega
    have z2 : (c ++ List.replicate n 0).length < 17592186044416 := by omega
    refine Ev.step (fun k => spec_l4Add.l0.eq_2 _ _ _ _ k) ?_
    simp only [Poly.up_length, wrap_addn b.length m (by omega), if_pos z, if_pos z2]
    have e : Poly.up (c ++ List.replicate n 0) ++ [0] = Poly.up (c ++ List.replicate (n + 1) 0) := by
      rw [show ([0] : List Int) = [((0 : Nat) : Int)] from rfl, Poly.up_snoc, List.append_assoc, List.replicate_succ']
    rw [e]
    exact ih (n + 1) (by omega)
theorem spec_l4Add_ev (f m : Nat) (b c : List Nat) (hf : f < 256) (hb : Poly.AllB b) (hm : m ≤ 1000) (hbl : b.length ≤ 1000) (hc : Poly.AllB c) (hcl : c.length ≤ 1000) : Ev (fun r => spec_l4Add.f r (Poly.up c) (Poly.up b) (f : Int) (m : Int)) (Poly.up (Bm.upd c b f m)) := by
  have z : (([] : List Int)).length + (Poly.up c).length < 17592186044416 := by rw [Poly.up_length]; simp; omega
  unfold spec_l4Add.f
  simp only [Option.bind_some, if_pos z, List.nil_append]
  have := spec_l4Add_l0 f m b c hf hb hm hbl hc hcl (m + b.length - c.length) 0 (by omega)
  rw [List.replicate_zero, List.append_nil] at this
  exact this

/-- The loop over the terms of a discrepancy. -/
theorem spec_l4Locator_l1 (s : List Nat) (hs : Poly.AllB s) (hl : s.length ≤ 100) {k : Nat} (hk : k < s.length) {t : Bm.St} (h : Bm.Inv s k t) {R : List Int} (hj : Ev (fun r => spec_l4Locator.j2 r (Poly.up s) (Poly.up t.c) (Poly.up t.b) (t.long : Int) (t.m : Int) (t.last : Int) (k : Int) ((Bm.disc s t k : Nat) : Int) (s.length : Int) (k : Int)) R) :
    ∀ d i : Nat, i + d = min (t.long + 1) t.c.length → Ev (fun r => spec_l4Locator.l1 r (Poly.up s) (Poly.up t.c) (Poly.up t.b) (t.long : Int) (t.m : Int) (t.last : Int) (k : Int) ((Lin.xs i (fun i => Gf.gm (t.c.getD i 0) (s.getD (k - i) 0)) : Nat) : Int) (i : Int) (s.length : Int) (k : Int)) R := by
  have hlk := h.lk
  have hsz := h.sz
  intro d
  induction d with
  | zero =>
    intro i hi
    obtain rfl : i = min (t.long + 1) t.c.length := by omega
    refine Ev.step (fun k => spec_l4Locator.l1.eq_2 _ _ _ _ _ _ _ _ _ _ _ k) ?_
    by_cases h1 : min (t.long + 1) t.c.length ≤ t.long
    · have z1 : ((min (t.long + 1) t.c.length : Nat) : Int) ≤ (t.long : Int) := by omega
      have z2 : ¬ ((min (t.long + 1) t.c.length : Nat) : Int) < (t.c.length : Int) := by omega
      simp only [Poly.up_length, if_pos z1, if_neg z2]
      exact hj
    · have z1 : ¬ ((min (t.long + 1) t.c.length : Nat) : Int) ≤ (t.long : Int) := by omega
      simp only [if_neg z1]
      exact hj
  | succ d ih =>
    intro i hi
    have z1 : (i : Int) ≤ (t.long : Int) := by omega
    have z2 : (i : Int) < (t.c.length : Int) := by omega
    have z3 : (0 : Int) ≤ (i : Int) := by omega
    have z4 : (0 : Int) ≤ ((k - i : Nat) : Int) := by omega
    have z5 : ((k - i : Nat) : Int) < (s.length : Int) := by omega
    have hg := Pev.getD_lt h.cb i
    have hx : Lin.xs i (fun i => Gf.gm (t.c.getD i 0) (s.getD (k - i) 0)) < 256 := Lin.xs_lt fun j _ => Gf.gm_lt _ (Pev.getD_lt h.cb j)
    refine Ev.step (fun k => spec_l4Locator.l1.eq_2 _ _ _ _ _ _ _ _ _ _ _ k) ?_
    simp only [Poly.up_length, Poly.rd_up, if_pos z1, if_pos z2, if_pos z3, wrap_sub k i (by omega) (by omega), if_pos z4, if_pos z5, wrap_up i (by omega)]
    refine Ev.bind (spec_l1Mul_ev _ _ hg (hs.get (k - i))) ?_
    rw [xor_up hx (Gf.gm_lt _ hg)]
    exact ih (i + 1) (by omega)
theorem spec_l4Locator_l0 (s : List Nat) (hs : Poly.AllB s) (hl : s.length ≤ 100) : ∀ (d k : Nat) (t : Bm.St), k + d = s.length → Bm.Inv s k t →
    Ev (fun r => spec_l4Locator.l0 r (Poly.up s) (Poly.up t.c) (Poly.up t.b) (t.long : Int) (t.m : Int) (t.last : Int) (s.length : Int) (k : Int)) (Poly.up (Poly.tr (Bm.run s d k t).c)) := by
  intro d
  induction d with
  | zero =>
    intro k t hk h
    obtain rfl : k = s.length := by omega
    have hsz := h.sz
    have z : ¬ ((s.length : Nat) : Int) < ((s.length : Nat) : Int) := by omega
    refine Ev.step (fun k => spec_l4Locator.l0.eq_2 _ _ _ _ _ _ _ _ k) ?_
    simp only [if_neg z]
    exact Ev.bind (spec_l1Cut_ev t.c (by omega)) (Ev.now _)
  | succ d ih =>
    intro k t hk h
    have hlk := h.lk
    have hsz := h.sz
    have hmq := h.mq
    have hkl : k < s.length := by omega
    have z : (k : Int) < (s.length : Int) := by omega
    have ih' := ih (k + 1) (Bm.step s k t) (by omega) (Bm.inv_step hs h)
    have hd : Bm.disc s t k < 256 := Bm.disc_lt h.cb
    refine Ev.step (fun k => spec_l4Locator.l0.eq_2 _ _ _ _ _ _ _ _ k) ?_
    simp only [if_pos z]
    refine spec_l4Locator_l1 s hs hl hkl h ?_ (min (t.long + 1) t.c.length) 0 (by omega)
    refine Ev.step (fun k => spec_l4Locator.j2.eq_2 _ _ _ _ _ _ _ _ _ _ k) ?_
    show Ev _ (Poly.up (Poly.tr (Bm.run s d (k + 1) (Bm.step s k t)).c))
    unfold Bm.step at ih' ⊢
    by_cases e : Bm.disc s t k = 0
    · have z2 : ((Bm.disc s t k : Nat) : Int) = 0 := by omega
      simp only [if_pos e] at ih' ⊢
      simp only [if_pos z2, wrap_up t.m (by omega), wrap_up k (by omega)]
      exact ih'
    · have z2 : ¬ ((Bm.disc s t k : Nat) : Int) = 0 := by omega
      simp only [if_neg e] at ih' ⊢
      simp only [if_neg z2, wrap_up t.m (by omega), wrap_up k (by omega), wrap_two t.long (by omega)]
      refine Ev.bind (spec_l1Div_ev _ _ hd h.lb) ?_
      refine Ev.bind (spec_l4Add_ev _ t.m t.b t.c (Gf.gm_lt _ hd) h.bb (by omega) (by omega) h.cb (by omega)) ?_
      by_cases e2 : 2 * t.long ≤ k
      · have z3 : ((2 * t.long : Nat) : Int) ≤ (k : Int) := by omega
        simp only [if_pos e2] at ih' ⊢
        simp only [if_pos z3, wrap_sub (k + 1) t.long (by omega) (by omega)]
        exact ih'
      · have z3 : ¬ ((2 * t.long : Nat) : Int) ≤ (k : Int) := by omega
        simp only [if_neg e2] at ih' ⊢
        simp only [if_neg z3]
        exact ih'
theorem spec_l4Locator_ev (s : List Nat) (hs : Poly.AllB s) (hl : s.length ≤ 100) : Ev (fun r => spec_l4Locator.f r (Poly.up s)) (Poly.up (Bm.loc s)) := by
  have := spec_l4Locator_l0 s hs hl s.length 0 Bm.st0 (by omega) (Bm.inv0 s)
  unfold spec_l4Locator.f
  rw [Poly.up_length]
  exact this

theorem spec_LocatorOf_ev (l : List Int) (hl : l.length ≤ 1048576) : Ev (fun k => spec_LocatorOf.f k l) (locV l) := by
  unfold spec_LocatorOf.f locV
  simp only [spec_l1In_eq, Option.bind_some]
  by_cases h1 : (2 : Int) ≤ (l.length : Int) ∧ (l.length : Int) ≤ 6
  · simp only [decide_eq_true h1, if_true, and_one (a := l.length) (by omega)]
    by_cases h2 : l.length % 2 = 1
    · have z : ((l.length % 2 : Nat) : Int) = 1 := by omega
      have z2 : ¬ (l.length = 2 ∨ l.length = 4 ∨ l.length = 6) := by omega
      simp only [if_pos z, decide_eq_false z2, Bool.false_and]
      exact Ev.now _
    · have z : ¬ ((l.length % 2 : Nat) : Int) = 1 := by omega
      have z2 : l.length = 2 ∨ l.length = 4 ∨ l.length = 6 := by omega
      simp only [if_neg z, decide_eq_true z2, Bool.true_and]
      refine Ev.bind (spec_l1All_ev l (by omega)) ?_
      cases h : l.all isB
      · exact Ev.now _
      · obtain ⟨m, rfl, hm⟩ := allB_up h
        rw [Poly.up_length] at z2
        simp only [if_true, toNat_up]
        exact Ev.bind (spec_l4Locator_ev m hm (by omega)) (Ev.now _)
  · have z2 : ¬ (l.length = 2 ∨ l.length = 4 ∨ l.length = 6) := by omega
    simp only [decide_eq_false h1, decide_eq_false z2, Bool.false_and]
    exact Ev.now _

theorem spec_DrawSyndromesOf_ex {s : List Int} (hs : BY s) : ∃ v t, Ev (fun k => spec_DrawSyndromesOf.f k s) (v, t) ∧ v.length ≤ 24 := by
  obtain ⟨v, t, a2, d2, E2, g1, g2, g3⟩ := spec_l1Cur_spoiltWord_ex hs (a := 0) 0 (by omega) (by omega)
  exact ⟨v, t, Ev.bind E2 (Ev.now _), g1⟩

theorem impl_isWrong_eq (a : Int) : impl_isWrong.f a = some (isW a) := by
  unfold impl_isWrong.f; rw [impl_within_eq]; rfl

theorem impl_isLong_eq (l : List Int) (w : Int) : impl_isLong.f l w = some (isLg l w) := by
  unfold impl_isLong.f isLg
  simp only [impl_isWrong_eq, impl_areGf_eq, Option.bind_some]
  cases h1 : isW w
  · rfl
  · obtain ⟨n, rfl, h2, h3⟩ := isW_nat h1
    have e : wrap64 (2 * (n : Int)) = 2 * (n : Int) := wrap_id (by omega) (by omega)
    rw [e, if_pos rfl]
    by_cases h4 : 2 * (n : Int) < (l.length : Int)
    · rw [if_pos (show (l.length : Int) > 2 * (n : Int) from h4)]
      by_cases h5 : l.length ≤ 24
      · rw [if_pos (show (l.length : Int) ≤ 24 by omega), decide_eq_true (⟨h4, h5⟩ : 2 * (n : Int) < (l.length : Int) ∧ l.length ≤ 24)]; rfl
      · rw [if_neg (show ¬ (l.length : Int) ≤ 24 by omega), decide_eq_false (fun h : 2 * (n : Int) < (l.length : Int) ∧ l.length ≤ 24 => h5 h.2)]; rfl
    · rw [if_neg (show ¬ (l.length : Int) > 2 * (n : Int) from h4), decide_eq_false (fun h : 2 * (n : Int) < (l.length : Int) ∧ l.length ≤ 24 => h4 h.1)]; rfl

theorem impl_eval_l0 (p : List Nat) (x : Nat) (hp : Poly.AllB p) (hx : x < 256) (hl : p.length ≤ 100000) : ∀ i : Nat, i ≤ p.length → Ev (fun k => impl_eval.l0 k (Poly.up p) (x : Int) ((Poly.gev (p.drop i) x : Nat) : Int) ((i : Int) - 1)) ((Poly.gev p x : Nat) : Int) := by
  intro i
  induction i with
  | zero =>
    intro _
    exact Ev.step (f := fun _ => some ((Poly.gev p x : Nat) : Int)) (fun k => by simp only [impl_eval.l0]; rw [if_neg (by omega)]; rfl) (Ev.now _)
  | succ i ih =>
    intro hi
    have hlt : i < p.length := by omega
    have e1 : ((i + 1 : Nat) : Int) - 1 = (i : Int) := by omega
    have hd : p.drop i = p.getD i 0 :: p.drop (i + 1) := by
      rw [List.drop_eq_getElem_cons hlt]
      simp [List.getD_eq_getElem?_getD, List.getElem?_eq_getElem hlt]
    have hv := Poly.gev_lt (hp.drop (i + 1)) x
    have hg := hp.get i
    have ih' := ih (by omega)
    rw [hd] at ih'
    rw [e1]
    have ex := xor_up (Gf.gm_lt x hv) hg
    refine Ev.step (f := fun k => (impl_mul.f k ((Poly.gev (p.drop (i + 1)) x : Nat) : Int) (x : Int)).bind fun t => impl_eval.l0 k (Poly.up p) (x : Int) (Go.bits .xor .i64 t ((p.getD i 0 : Nat) : Int)) ((i : Int) - 1)) (fun k => ?_) ?_
    · simp only [impl_eval.l0, Poly.rd_up, Poly.up_length, wrap_down i (by omega)]
      have z1 : (0 : Int) ≤ (i : Int) := by omega
      have z2 : (i : Int) < (p.length : Int) := by omega
      rw [if_pos (by omega)]
      simp only [if_pos z1, if_pos z2]
    · refine Ev.bind (impl_mul_ev _ _ hv hx) ?_
      rw [ex]
      exact ih'
theorem impl_eval_ev (p : List Nat) (x : Nat) (hp : Poly.AllB p) (hx : x < 256) (hl : p.length ≤ 100000) : Ev (fun k => impl_eval.f k (Poly.up p) (x : Int)) ((Poly.gev p x : Nat) : Int) := by
  have := impl_eval_l0 p x hp hx hl p.length (Nat.le_refl _)
  rw [List.drop_length] at this
  unfold impl_eval.f
  rw [Poly.up_length, wrap_down p.length (by omega)]
  exact this

theorem impl_syndromes_l0 (m : List Nat) (w : Nat) (hm : Poly.AllB m) (hl : m.length ≤ 1000) (hw : w ≤ 3) : ∀ d n : Nat, n + d = 2 * w → Ev (fun k => impl_syndromes.l0 k (Poly.up m) (Poly.up (synL m n)) ((2 * w : Nat) : Int) (n : Int)) (Poly.up (synL m (2 * w))) := by
  intro d
  induction d with
  | zero =>
    intro n hn
    obtain rfl : n = 2 * w := by omega
    exact Ev.step (f := fun _ => some (Poly.up (synL m (2 * w)))) (fun k => by simp only [impl_syndromes.l0]; rw [if_neg (by omega)]) (Ev.now _)
  | succ d ih =>
    intro n hn
    have z : (Poly.up (synL m n)).length < 17592186044416 := by rw [Poly.up_length, synL_length]; omega
    refine Ev.step (fun k => impl_syndromes.l0.eq_2 _ _ _ _ k) ?_
    have z1 : (n : Int) < ((2 * w : Nat) : Int) := by omega
    simp only [if_pos z1, if_pos z, wrap_up n (by omega)]
    refine Ev.bind (impl_pow_ev 2 n (by decide) (by omega)) ?_
    refine Ev.bind (impl_eval_ev m (Gf.pw 2 n) hm (Gf.pw_lt n) (by omega)) ?_
    rw [Poly.up_snoc, ← synL_succ]
    exact ih (n + 1) (by omega)
theorem impl_syndromes_ev (m : List Nat) (w : Nat) (hm : Poly.AllB m) (hl : m.length ≤ 1000) (hw : w ≤ 3) : Ev (fun k => impl_syndromes.f k (Poly.up m) (w : Int)) (Poly.up (synL m (2 * w))) := by
  have e2 : wrap64 (2 * (w : Int)) = ((2 * w : Nat) : Int) := by rw [wrap_id (by omega) (by omega)]; omega
  unfold impl_syndromes.f
  rw [e2]
  exact impl_syndromes_l0 m w hm hl hw (2 * w) 0 (by omega)

theorem impl_SyndromesOf_ev (l : List Int) (w : Int) : Ev (fun k => impl_SyndromesOf.f k l w) (synV l w) := by
  unfold impl_SyndromesOf.f synV
  simp only [impl_isLong_eq, Option.bind_some]
  cases h : isLg l w
  · exact Ev.now _
  · obtain ⟨m, n, rfl, rfl, hm, h1, h3, h4, h5⟩ := isLg_up h
    simp only [if_true, toNat_up, Int.toNat_natCast]
    exact Ev.bind (impl_syndromes_ev m n hm (by omega) h3) (Ev.now _)

theorem mx_nat (a b : Nat) : mx (a : Int) (b : Int) = ((max a b : Nat) : Int) := by unfold mx; split <;> omega
theorem slices_Max_l0 (l : List Nat) (hl : l.length ≤ 1000) : ∀ d i v : Nat, i + d = l.length → Ev (fun k => slices_Max_int_int.l0 k (Poly.up l) (v : Int) (i : Int)) (((l.drop i).foldl max v : Nat) : Int) := by
  intro d
  induction d with
  | zero =>
    intro i v hi
    obtain rfl : i = l.length := by omega
    rw [List.drop_length]
    exact Ev.step (f := fun _ => some (v : Int)) (fun k => by simp only [slices_Max_int_int.l0, Poly.up_length]; rw [if_neg (by omega)]) (Ev.now _)
  | succ d ih =>
    intro i v hi
    have hlt : i < l.length := by omega
    have hd : l.drop i = l.getD i 0 :: l.drop (i + 1) := by
      rw [List.drop_eq_getElem_cons hlt]
      simp [List.getD_eq_getElem?_getD, List.getElem?_eq_getElem hlt]
    have z1 : (i : Int) < (l.length : Int) := by omega
    have z2 : (0 : Int) ≤ (i : Int) := by omega
    refine Ev.step (fun k => slices_Max_int_int.l0.eq_2 _ _ _ k) ?_
    simp only [Poly.rd_up, Poly.up_length, if_pos z1, if_pos z2, wrap_up i (by omega), mx_nat]
    rw [hd]
    exact ih (i + 1) _ (by omega)
theorem slices_Max_ev (l : List Nat) (hl : l.length ≤ 1000) (h0 : 0 < l.length) : Ev (fun k => slices_Max_int_int.f k (Poly.up l)) (((l.drop 1).foldl max (l.getD 0 0) : Nat) : Int) := by
  unfold slices_Max_int_int.f
  have z1 : ¬ (l.length : Int) < 1 := by omega
  have z2 : (0 : Int) < (l.length : Int) := by omega
  have e : rd (Poly.up l) 0 = ((l.getD 0 0 : Nat) : Int) := Poly.rd_up l 0
  simp only [Poly.up_length, if_neg z1, if_pos z2, e]
  exact slices_Max_l0 l hl (l.length - 1) 1 _ (by omega)
theorem max_zero : ∀ (l : List Nat) (v : Nat), (l.foldl max v = 0) ↔ (v = 0 ∧ ∀ x ∈ l, x = 0)
  | [], v => by simp
  | a :: l, v => by
    rw [List.foldl_cons, max_zero l]
    constructor
    · rintro ⟨h1, h2⟩
      refine ⟨by omega, fun x hx => ?_⟩
      rcases List.mem_cons.1 hx with rfl | hx
      · omega
      · exact h2 x hx
    · rintro ⟨h1, h2⟩
      have := h2 a List.mem_cons_self
      exact ⟨by omega, fun x hx => h2 x (List.mem_cons_of_mem _ hx)⟩
theorem max_zeroL (l : List Nat) (h : 0 < l.length) : ((((l.drop 1).foldl max (l.getD 0 0) : Nat) : Int) == 0) = zeroL l := by
  cases l with
  | nil => simp at h
  | cons a l =>
    have e : (((((a :: l).drop 1).foldl max ((a :: l).getD 0 0) : Nat) : Int) == 0) = decide ((l.foldl max a) = 0) := by
      show (((l.foldl max a : Nat) : Int) == 0) = _
      by_cases h0 : l.foldl max a = 0
      · rw [h0]; rfl
      · rw [decide_eq_false h0]
        exact beq_eq_false_iff_ne.2 (by omega)
    rw [e]
    unfold zeroL
    by_cases h0 : l.foldl max a = 0
    · rw [decide_eq_true h0]
      symm
      rw [List.all_eq_true]
      have := (max_zero l a).1 h0
      intro x hx
      rcases List.mem_cons.1 hx with rfl | hx
      · simp [this.1]
      · simp [this.2 x hx]
    · rw [decide_eq_false h0]
      symm
      rw [Bool.eq_false_iff]
      intro hall
      rw [List.all_eq_true] at hall
      refine h0 ((max_zero l a).2 ⟨by simpa using hall a List.mem_cons_self, fun x hx => by simpa using hall x (List.mem_cons_of_mem _ hx)⟩)

theorem impl_isRight_ev (m : List Nat) (w : Nat) (hm : Poly.AllB m) (hl : m.length ≤ 1000) (hw : w ≤ 3) (hw1 : 1 ≤ w) : Ev (fun k => impl_isRight.f k (Poly.up m) (w : Int)) (zeroL (synL m (2 * w))) := by
  unfold impl_isRight.f
  refine Ev.bind (impl_syndromes_ev m w hm hl hw) ?_
  refine Ev.bind (slices_Max_ev (synL m (2 * w)) (by rw [synL_length]; omega) (by rw [synL_length]; omega)) ?_
  rw [max_zeroL _ (by rw [synL_length]; omega)]
  exact Ev.now _

theorem impl_IsWord_ev (l : List Int) (w : Int) : Ev (fun k => impl_IsWord.f k l w) (wordV l w) := by
  unfold impl_IsWord.f wordV
  simp only [impl_isLong_eq, Option.bind_some]
  cases h : isLg l w
  · exact Ev.now _
  · obtain ⟨m, n, rfl, rfl, hm, h1, h3, h4, h5⟩ := isLg_up h
    simp only [if_true, toNat_up, Int.toNat_natCast]
    exact Ev.bind (impl_isRight_ev m n hm (by omega) h3 h1) (Ev.now _)

theorem spec_l4Is_l0 (l : List Nat) (hl : l.length ≤ 1000) : ∀ d i : Nat, i + d = l.length → Ev (fun k => spec_l4Is.l0 k (Poly.up l) (l.length : Int) (i : Int)) (zeroL (l.drop i)) := by
  intro d
  induction d with
  | zero =>
    intro i hi
    obtain rfl : i = l.length := by omega
    rw [List.drop_length]
    exact Ev.step (f := fun _ => some true) (fun k => by simp only [spec_l4Is.l0]; rw [if_neg (by omega)]) (Ev.now _)
  | succ d ih =>
    intro i hi
    have hlt : i < l.length := by omega
    have hd : l.drop i = l.getD i 0 :: l.drop (i + 1) := by
      rw [List.drop_eq_getElem_cons hlt]
      simp [List.getD_eq_getElem?_getD, List.getElem?_eq_getElem hlt]
    have z1 : (i : Int) < (l.length : Int) := by omega
    have z2 : (0 : Int) ≤ (i : Int) := by omega
    refine Ev.step (fun k => spec_l4Is.l0.eq_2 _ _ _ k) ?_
    simp only [Poly.rd_up, Poly.up_length, if_pos z1, if_pos z2, wrap_up i (by omega)]
    rw [hd]
    show Ev _ ((l.getD i 0 == 0) && zeroL (l.drop (i + 1)))
    by_cases h0 : l.getD i 0 = 0
    · have z3 : ((l.getD i 0 : Nat) : Int) = 0 := by omega
      simp only [if_pos z3, h0, beq_self_eq_true, Bool.true_and]
      exact ih (i + 1) (by omega)
    · have z3 : ¬ ((l.getD i 0 : Nat) : Int) = 0 := by omega
      simp only [if_neg z3, beq_eq_false_iff_ne.2 h0, Bool.false_and]
      exact Ev.now _
theorem spec_l4Is_ev (m : List Nat) (w : Nat) (hm : Poly.AllB m) (hl : m.length ≤ 1000) (hw : w ≤ 3) : Ev (fun k => spec_l4Is.f k (Poly.up m) (w : Int)) (zeroL (synL m (2 * w))) := by
  unfold spec_l4Is.f
  refine Ev.bind (spec_l4Syndromes_ev m w hm hl hw) ?_
  rw [Poly.up_length]
  exact spec_l4Is_l0 (synL m (2 * w)) (by rw [synL_length]; omega) (synL m (2 * w)).length 0 (by omega)

theorem spec_IsWord_ev (l : List Int) (w : Int) (hl : l.length ≤ 140737488351232) : Ev (fun k => spec_IsWord.f k l w) (wordV l w) := by
  unfold spec_IsWord.f wordV
  refine Ev.bind (spec_l4Word_ev l w hl) ?_
  cases h : isLg l w
  · exact Ev.now _
  · obtain ⟨m, n, rfl, rfl, hm, h1, h3, h4, h5⟩ := isLg_up h
    simp only [if_true, toNat_up, Int.toNat_natCast]
    exact Ev.bind (spec_l4Is_ev m n hm (by omega) h3) (Ev.now _)

theorem impl_divPoly_l (q : List Nat) (hq : Poly.AllB q) (hq0 : 0 < q.length) (hql : q.length ≤ 1000) (inv : Nat) (hinv : inv < 256) : ∀ (n : Nat) (quo rest : List Nat), Poly.AllB quo → Poly.AllB rest → n ≤ quo.length → n + q.length ≤ rest.length + 1 → quo.length ≤ 5000 → rest.length ≤ 5000 →
    Ev (fun r => impl_divPoly.l0 r (Poly.up q) (Poly.up rest) (Poly.up quo) (inv : Int) ((n : Int) - 1)) (Poly.up (Poly.tr (Poly.dvA q inv n quo rest).1), Poly.up (Poly.tr (Poly.dvA q inv n quo rest).2)) := by
  intro n
  induction n with
  | zero =>
    intro quo rest h1 h2 _ _ h5 h6
    have z : ¬ (((0 : Nat) : Int) - 1 ≥ 0) := by omega
    refine Ev.step (fun k => impl_divPoly.l0.eq_2 _ _ _ _ _ k) ?_
    simp only [if_neg z]
    exact Ev.bind (impl_trimmed_ev quo (by omega)) (Ev.bind (impl_trimmed_ev rest (by omega)) (Ev.now _))
  | succ n ih =>
    intro quo rest h1 h2 h3 h4 h5 h6
    have e0 : ((n + 1 : Nat) : Int) - 1 = (n : Int) := by omega
    have e1 : wrap64 (wrap64 ((n : Int) + (q.length : Int)) - 1) = ((n + q.length - 1 : Nat) : Int) := by rw [wrap_addn _ _ (by omega), wrap_id (by omega) (by omega)]; omega
    have z1 : (n : Int) ≥ 0 := by omega
    have z2 : (0 : Int) ≤ ((n + q.length - 1 : Nat) : Int) := by omega
    have z3 : ((n + q.length - 1 : Nat) : Int) < (rest.length : Int) := by omega
    have z4 : (0 : Int) ≤ (n : Int) := by omega
    have z5 : (n : Int) < (quo.length : Int) := by omega
    have hf := Gf.gm_lt inv (Pev.getD_lt h2 (n + q.length - 1))
    rw [e0]
    refine Ev.step (fun k => impl_divPoly.l0.eq_2 _ _ _ _ _ k) ?_
    simp only [Poly.up_length, Poly.rd_up, e1, if_pos z1, if_pos z2, if_pos z3, if_pos z4, if_pos z5, Int.toNat_natCast]
    refine Ev.bind (impl_mul_ev _ _ (Pev.getD_lt h2 (n + q.length - 1)) hinv) ?_
    unfold Poly.dvA
    generalize Gf.gm (rest.getD (n + q.length - 1) 0) inv = f at hf ⊢
    rw [Poly.up_set]
    have hqn : (quo.set n f).getD n 0 = f := by rw [Pev.getD_set _ _ _ _ (by omega), if_pos rfl]
    have inner : ∀ (d j : Nat) (out : List Nat), j + d = q.length → Poly.AllB out → out.length = rest.length → 
        Poly.mrow f (q.drop j) (n + j) out = Poly.mrow f q n rest → Ev (fun r => impl_divPoly.l1 r (Poly.up q) (Poly.up out) (Poly.up (quo.set n f)) (inv : Int) (n : Int) (Poly.up q) (q.length : Int) (j : Int)) (Poly.up (Poly.tr (Poly.dvA q inv n (quo.set n f) (Poly.mrow f q n rest)).1), Poly.up (Poly.tr (Poly.dvA q inv n (quo.set n f) (Poly.mrow f q n rest)).2)) := by
      intro d
      induction d with
      | zero =>
        intro j out hj ho hl he
        obtain rfl : j = q.length := by omega
        rw [List.drop_length] at he
        have he' : out = Poly.mrow f q n rest := he
        have z : ¬ ((q.length : Nat) : Int) < ((q.length : Nat) : Int) := by omega
        refine Ev.step (fun k => impl_divPoly.l1.eq_2 _ _ _ _ _ _ _ _ k) ?_
        simp only [if_neg z, wrap_down n (by omega)]
        rw [← he']
        exact ih (quo.set n f) out (Poly.AllB.set h1 n hf) ho (by rw [List.length_set]; omega) (by omega) (by rw [List.length_set]; omega) (by omega)
      | succ d ihd =>
        intro j out hj ho hl he
        have hjl : j < q.length := by omega
        have y1 : (j : Int) < (q.length : Int) := by omega
        have y2 : (0 : Int) ≤ (j : Int) := by omega
        have y3 : (0 : Int) ≤ ((n + j : Nat) : Int) := by omega
        have y4 : ((n + j : Nat) : Int) < (out.length : Int) := by omega
        have y5 : (n : Int) < ((quo.set n f).length : Int) := by rw [List.length_set]; omega
        refine Ev.step (fun k => impl_divPoly.l1.eq_2 _ _ _ _ _ _ _ _ k) ?_
        simp only [Poly.up_length, Poly.rd_up, if_pos y1, if_pos y2, wrap_addn n j (by omega), if_pos y3, if_pos y4, if_pos z4, if_pos y5, hqn, wrap_up j (by omega), Int.toNat_natCast]
        refine Ev.bind (impl_mul_ev f (q.getD j 0) hf (hq.get j)) ?_
        rw [xor_up (ho.get (n + j)) (Gf.gm_lt (q.getD j 0) hf), Poly.up_set]
        refine ihd (j + 1) (out.set (n + j) (out.getD (n + j) 0 ^^^ Gf.gm f (q.getD j 0))) (by omega) (ho.set _ (Gf.xor_byte (ho.get _) (Gf.gm_lt _ hf))) (by rw [List.length_set]; exact hl) ?_
        rw [← he, drop_getD q j hjl, show n + (j + 1) = n + j + 1 by omega]
        rfl
    exact inner q.length 0 rest (by omega) h2 rfl (by rw [List.drop_zero, Nat.add_zero])
theorem impl_divPoly_ev (p q : List Nat) (hp : Poly.AllB p) (hq : Poly.AllB q) (hq0 : 0 < q.length) (hpl : p.length ≤ 1000) (hql : q.length ≤ 1000) : Ev (fun r => impl_divPoly.f r (Poly.up p) (Poly.up q)) (Poly.up (Poly.tr (divI p q).1), Poly.up (Poly.tr (divI p q).2)) := by
  have e0 : mx 0 (wrap64 (wrap64 ((p.length : Int) - (q.length : Int)) + 1)) = ((p.length + 1 - q.length : Nat) : Int) := by
    rw [wrap_id (n := (p.length : Int) - (q.length : Int)) (by omega) (by omega), wrap_id (by omega) (by omega)]
    unfold mx
    split <;> omega
  have z1 : (0 : Int) ≤ ((p.length + 1 - q.length : Nat) : Int) := by omega
  have z2 : ((p.length + 1 - q.length : Nat) : Int).toNat ≤ 35184372088832 := by omega
  have e2 : wrap64 ((q.length : Int) - 1) = ((q.length - 1 : Nat) : Int) := by rw [wrap_id (by omega) (by omega)]; omega
  have z4 : (0 : Int) ≤ ((q.length - 1 : Nat) : Int) := by omega
  have z5 : ((q.length - 1 : Nat) : Int) < (q.length : Int) := by omega
  have hcl : slices_Clone_int_int.f (Poly.up p) = some (Poly.up p) := by
    unfold slices_Clone_int_int.f
    exact if_pos (by rw [Poly.up_length]; omega)
  have ht := Pev.getD_lt hq (q.length - 1)
  have e3 : wrap64 ((((p.length + 1 - q.length) : Nat) : Int) - 1) = (((p.length + 1 - q.length) : Nat) : Int) - 1 := wrap_id (by omega) (by omega)
  refine Ev.congr (f := fun r => (impl_inverse.f r ((q.getD (q.length - 1) 0 : Nat) : Int)).bind fun t => impl_divPoly.l0 r (Poly.up q) (Poly.up p) (Poly.up (List.replicate (p.length + 1 - q.length) 0)) t ((((p.length + 1 - q.length) : Nat) : Int) - 1)) (fun r => ?_) ?_
  · unfold impl_divPoly.f
    rw [hcl, Option.bind_some, Poly.up_length, Poly.up_length, e0, if_pos z1, if_pos z2, Option.bind_some, e2, if_pos z4, if_pos z5, Poly.rd_up, Int.toNat_natCast, Poly.up_zeros, Poly.up_length, List.length_replicate, e3]
  · refine Ev.bind (impl_inverse_ev _ ht) ?_
    by_cases h4 : q.length ≤ p.length + 1
    · exact impl_divPoly_l q hq hq0 (by omega) _ (Gf.gi_lt _) (p.length + 1 - q.length) _ p (Poly.AllB.zeros _) hp (by rw [List.length_replicate]; exact Nat.le_refl _) (by omega) (by rw [List.length_replicate]; omega) (by omega)
    · have e4 : p.length + 1 - q.length = 0 := by omega
      unfold divI
      rw [e4]
      have z6 : ¬ (((0 : Nat) : Int) - 1 ≥ 0) := by omega
      refine Ev.step (fun k => impl_divPoly.l0.eq_2 _ _ _ _ _ k) ?_
      simp only [if_neg z6]
      exact Ev.bind (impl_trimmed_ev _ (by rw [List.length_replicate]; omega)) (Ev.bind (impl_trimmed_ev p (by omega)) (Ev.now _))

theorem impl_mulPoly_l0 (p q : List Nat) (hp : Poly.AllB p) (hq : Poly.AllB q) (hpl : p.length ≤ 1000) (hql : q.length ≤ 1000) : ∀ (d i : Nat) (out : List Nat), i + d = p.length → out.length = p.length + q.length → Poly.AllB out →
    Ev (fun k => impl_mulPoly.l0 k (Poly.up q) (Poly.up out) (Poly.up p) (p.length : Int) (i : Int)) (Poly.up (Poly.tr (Poly.mpA q (p.drop i) i out))) := by
  intro d
  induction d with
  | zero =>
    intro i out hi hol hob
    obtain rfl : i = p.length := by omega
    rw [List.drop_length]
    refine Ev.step (f := fun k => (impl_trimmed.f k (Poly.up out)).bind fun t => some t) (fun k => ?_) (Ev.bind (f := fun _ t => some t) (impl_trimmed_ev out (by omega)) (Ev.now _))
    simp only [impl_mulPoly.l0]
    rw [if_neg (by omega)]
  | succ d ih =>
    intro i out hi hol hob
    have hlt : i < p.length := by omega
    have ha : p.getD i 0 < 256 := hp.get i
    have inner : ∀ (e j : Nat) (o : List Nat), j + e = q.length → o.length = p.length + q.length → Poly.AllB o →
        Ev (fun k => impl_mulPoly.l1 k (Poly.up q) (Poly.up o) (i : Int) ((p.getD i 0 : Nat) : Int) (Poly.up p) (p.length : Int) (i : Int) (Poly.up q) (q.length : Int) (j : Int)) (Poly.up (Poly.tr (Poly.mpA q (p.drop (i + 1)) (i + 1) (Poly.mrow (p.getD i 0) (q.drop j) (i + j) o)))) := by
      intro e
      induction e with
      | zero =>
        intro j o hj hol hob
        obtain rfl : j = q.length := by omega
        rw [List.drop_length]
        refine Ev.step (f := fun k => impl_mulPoly.l0 k (Poly.up q) (Poly.up o) (Poly.up p) (p.length : Int) ((i + 1 : Nat) : Int)) (fun k => ?_) (ih (i + 1) o (by omega) hol hob)
        simp only [impl_mulPoly.l1, wrap_succ i (by omega)]
        rw [if_neg (by omega)]
      | succ e ihe =>
        intro j o hj hol hob
        have hjl : j < q.length := by omega
        have hb : q.getD j 0 < 256 := hq.get j
        have hdrop : q.drop j = q.getD j 0 :: q.drop (j + 1) := by
          rw [List.drop_eq_getElem_cons hjl]
          simp [List.getD_eq_getElem?_getD, List.getElem?_eq_getElem hjl]
        rw [hdrop]
        unfold Poly.mrow
        have hx := xor_up (hob.get (i + j)) (Gf.gm_lt (q.getD j 0) ha)
        refine Ev.step (f := fun k => (impl_mul.f k ((p.getD i 0 : Nat) : Int) ((q.getD j 0 : Nat) : Int)).bind fun t => impl_mulPoly.l1 k (Poly.up q) ((Poly.up o).set (i + j) (Go.bits .xor .i64 ((o.getD (i + j) 0 : Nat) : Int) t)) (i : Int) ((p.getD i 0 : Nat) : Int) (Poly.up p) (p.length : Int) (i : Int) (Poly.up q) (q.length : Int) ((j + 1 : Nat) : Int)) (fun k => ?_) ?_
        · simp only [impl_mulPoly.l1, wrap_add i j (by omega), wrap_succ j (by omega), Poly.rd_up, Poly.up_length, Int.toNat_natCast]
          rw [if_pos (by omega), if_pos (by omega), if_pos (by omega), if_pos (by omega), if_pos (by omega)]
        · refine Ev.bind (f := fun k t => impl_mulPoly.l1 k (Poly.up q) ((Poly.up o).set (i + j) (Go.bits .xor .i64 ((o.getD (i + j) 0 : Nat) : Int) t)) (i : Int) ((p.getD i 0 : Nat) : Int) (Poly.up p) (p.length : Int) (i : Int) (Poly.up q) (q.length : Int) ((j + 1 : Nat) : Int)) (impl_mul_ev _ _ ha hb) ?_
          simp only [hx, Poly.up_set]
          have := ihe (j + 1) (o.set (i + j) (o.getD (i + j) 0 ^^^ Gf.gm (p.getD i 0) (q.getD j 0))) (by omega) (by rw [List.length_set]; exact hol) (hob.set _ (Gf.xor_byte (hob.get _) (Gf.gm_lt _ ha)))
          rw [show i + (j + 1) = i + j + 1 by omega] at this
          exact this
    have hdrop : p.drop i = p.getD i 0 :: p.drop (i + 1) := by
      rw [List.drop_eq_getElem_cons hlt]
      simp [List.getD_eq_getElem?_getD, List.getElem?_eq_getElem hlt]
    rw [hdrop]
    unfold Poly.mpA
    have := inner q.length 0 out (by omega) hol hob
    rw [List.drop_zero, Nat.add_zero] at this
    refine Ev.step (f := fun k => impl_mulPoly.l1 k (Poly.up q) (Poly.up out) (i : Int) ((p.getD i 0 : Nat) : Int) (Poly.up p) (p.length : Int) (i : Int) (Poly.up q) (q.length : Int) 0) (fun k => ?_) this
    simp only [impl_mulPoly.l0, Poly.rd_up, Poly.up_length]
    rw [if_pos (by omega), if_pos (by omega), if_pos (by omega)]
theorem impl_mulPoly_ev (p q : List Nat) (hp : Poly.AllB p) (hq : Poly.AllB q) (hpl : p.length ≤ 1000) (hql : q.length ≤ 1000) : Ev (fun k => impl_mulPoly.f k (Poly.up p) (Poly.up q)) (Poly.up (Poly.mulP p q)) := by
  unfold impl_mulPoly.f Poly.mulP
  have z1 : (0 : Int) ≤ ((p.length + q.length : Nat) : Int) := by omega
  have z2 : p.length + q.length ≤ 35184372088832 := by omega
  simp only [Poly.up_length, wrap_add p.length q.length (by omega), if_pos z1, Int.toNat_natCast, if_pos z2, Poly.up_zeros]
  exact impl_mulPoly_l0 p q hp hq hpl hql p.length 0 _ (by omega) (by simp) (Poly.AllB.zeros _)

theorem impl_generator_l0 (w : Nat) (hw : w ≤ 3) : ∀ (d k0 : Nat) (acc : List Nat), k0 + d = 2 * w → acc.length ≤ 900 - 2 * d → Poly.AllB acc → Ev (fun k => impl_generator.l0 k (Poly.up acc) ((2 * w : Nat) : Int) (k0 : Int)) (Poly.up (Poly.genA d k0 acc)) := by
  intro d
  induction d with
  | zero =>
    intro k0 acc hk _ _
    refine Ev.step (f := fun _ => some (Poly.up acc)) (fun k => ?_) (Ev.now _)
    simp only [impl_generator.l0]
    rw [if_neg (by omega)]
  | succ d ih =>
    intro k0 acc hk hl hb
    have hq : Poly.AllB [Gf.pw 2 k0, 1] := Poly.AllB.cons (Gf.pw_lt _) (Poly.AllB.cons (by decide) Poly.AllB.nil)
    have hml := Poly.mulP_length acc [Gf.pw 2 k0, 1]
    simp only [List.length_cons, List.length_nil] at hml
    refine Ev.step (f := fun k => (impl_pow.f k 2 (k0 : Int)).bind fun t => (impl_mulPoly.f k (Poly.up acc) [t, 1]).bind fun u => impl_generator.l0 k u ((2 * w : Nat) : Int) ((k0 + 1 : Nat) : Int)) (fun k => ?_) ?_
    · simp only [impl_generator.l0, wrap_succ k0 (by omega)]
      rw [if_pos (by omega)]
    · refine Ev.bind (f := fun k t => (impl_mulPoly.f k (Poly.up acc) [t, 1]).bind fun u => impl_generator.l0 k u ((2 * w : Nat) : Int) ((k0 + 1 : Nat) : Int)) (impl_pow_ev 2 k0 (by decide) (by omega)) ?_
      exact Ev.bind (f := fun k u => impl_generator.l0 k u ((2 * w : Nat) : Int) ((k0 + 1 : Nat) : Int)) (impl_mulPoly_ev acc [Gf.pw 2 k0, 1] hb hq (by omega) (by simp)) (ih (k0 + 1) _ (by omega) (by omega) (Poly.mulP_bytes _ hb))
theorem impl_generator_ev (w : Nat) (hw : w ≤ 3) : Ev (fun k => impl_generator.f k (w : Int)) (Poly.up (Poly.gen w)) := by
  have e2 : wrap64 (2 * (w : Int)) = ((2 * w : Nat) : Int) := by rw [wrap_id (by omega) (by omega)]; omega
  unfold impl_generator.f
  rw [e2]
  exact impl_generator_l0 w hw (2 * w) 0 [1] (by omega) (by simp; omega) (Poly.AllB.cons (by decide) Poly.AllB.nil)

theorem impl_WrongPlaces_l0 (a b : List Int) (hab : a.length = b.length) (ha : a.length ≤ 1048576) : ∀ (d i : Nat) (acc : List Int), i + d = a.length → acc.length ≤ i → Ev (fun k => impl_WrongPlaces.l0 k b acc a (a.length : Int) (i : Int)) (acc ++ difL i (a.drop i) (b.drop i), true) := by
  intro d
  induction d with
  | zero =>
    intro i acc hi _
    obtain rfl : i = a.length := by omega
    have e : acc ++ difL a.length (a.drop a.length) (b.drop a.length) = acc := by rw [List.drop_length]; simp [difL]
    rw [e]
    exact Ev.step (f := fun _ => some (acc, true)) (fun k => by simp only [impl_WrongPlaces.l0]; rw [if_neg (by omega)]) (Ev.now _)
  | succ d ih =>
    intro i acc hi hacc
    have hlt : i < a.length := by omega
    have hlt2 : i < b.length := by omega
    rw [List.drop_eq_getElem_cons hlt, List.drop_eq_getElem_cons hlt2]
    unfold difL
    by_cases e : a[i] = b[i]
    · rw [if_pos e]
      refine Ev.step (f := fun k => impl_WrongPlaces.l0 k b acc a (a.length : Int) ((i + 1 : Nat) : Int)) (fun k => ?_) (ih (i + 1) acc (by omega) (by omega))
      simp only [impl_WrongPlaces.l0, rd_nat a i hlt, rd_nat b i hlt2, wrap_succ i (by omega)]
      rw [if_pos (by omega), if_pos (by omega), if_pos (by omega), if_pos (by omega), if_pos e]
    · rw [if_neg e]
      have hi' := ih (i + 1) (acc ++ [(i : Int)]) (by omega) (by simp; omega)
      rw [List.append_assoc] at hi'
      refine Ev.step (f := fun k => impl_WrongPlaces.l0 k b (acc ++ [(i : Int)]) a (a.length : Int) ((i + 1 : Nat) : Int)) (fun k => ?_) hi'
      simp only [impl_WrongPlaces.l0, rd_nat a i hlt, rd_nat b i hlt2, wrap_succ i (by omega)]
      rw [if_pos (by omega), if_pos (by omega), if_pos (by omega), if_pos (by omega), if_neg e, if_pos (by omega)]
theorem impl_WrongPlaces_ev (a b : List Int) : Ev (fun k => impl_WrongPlaces.f k a b) (placesV a b) := by
  have no : Ev (fun k => impl_WrongPlaces.j0 k a b true) (([] : List Int), false) := Ev.step (f := fun _ => some (([] : List Int), false)) (fun k => by simp only [impl_WrongPlaces.j0]; rfl) (Ev.now _)
  unfold impl_WrongPlaces.f placesV
  by_cases h : a.length = b.length
  · have z1 : (a.length : Int) = (b.length : Int) := by omega
    simp only [if_pos z1]
    by_cases h2 : a.length ≤ 24
    · have z2 : decide ((a.length : Int) > 24) = false := decide_eq_false (by omega)
      rw [if_pos ⟨h, h2⟩, z2]
      have := impl_WrongPlaces_l0 a b h (by omega) a.length 0 [] (by omega) (by simp)
      exact Ev.step (f := fun k => impl_WrongPlaces.l0 k b [] a (a.length : Int) 0) (fun k => by simp only [impl_WrongPlaces.j0]; rfl) (by simpa using this)
    · have z2 : decide ((a.length : Int) > 24) = true := decide_eq_true (by omega)
      rw [if_neg (fun x => h2 x.2), z2]
      exact no
  · have z1 : ¬ (a.length : Int) = (b.length : Int) := by omega
    rw [if_neg (fun x => h x.1)]
    simp only [if_neg z1]
    exact no

theorem spec_DrawGeneratorOf_ex {s : List Int} (hs : BY s) : ∃ v, spec_DrawGeneratorOf.f s = some v := by
  obtain ⟨x, a1, d1, e1, h2, h3, h4, h5, h6⟩ := spec_l1Cur_pick_ex hs (a := 0) 0 6 (by omega) (by omega)
  unfold spec_DrawGeneratorOf.f
  rw [e1, Option.bind_some]
  exact ⟨_, rfl⟩

theorem impl_GeneratorOf_ev (a : Int) : Ev (fun k => impl_GeneratorOf.f k a) (genV a) := by
  unfold impl_GeneratorOf.f genV
  simp only [impl_isWrong_eq, Option.bind_some]
  cases ha : isW a
  · exact Ev.now _
  · obtain ⟨n, rfl, h1, h3⟩ := isW_nat ha
    exact Ev.bind (f := fun _ t => some (t, true)) (impl_generator_ev n h3) (Ev.now _)

theorem spec_GeneratorOf_ev (a : Int) : Ev (fun k => spec_GeneratorOf.f k a) (genV a) := by
  unfold spec_GeneratorOf.f genV
  simp only [spec_l4Wrong_eq, Option.bind_some]
  cases ha : isW a
  · exact Ev.now _
  · obtain ⟨n, rfl, h1, h3⟩ := isW_nat ha
    exact Ev.bind (f := fun _ t => some (t, true)) (spec_l4Generator_ev n h3) (Ev.now _)

theorem spec_DrawWrongPlaces_l0 {s : List Int} (hs : BY s) (x : List Int) : ∀ (n : Nat) (l : List Int) (a d : Int), n ≤ 100 → l.length ≤ 100 → 0 ≤ a → a ≤ 800000000000 - 4 * n →
    ∃ v, Ev (fun k => spec_DrawWrongPlaces.l0 k x l (n : Int) s a d) (x, v) ∧ v.length ≤ l.length + 1 := by
  have fin : ∀ (n : Nat) (l : List Int) (a d : Int), l.length ≤ 100 → 0 ≤ a → a ≤ 800000000000 → ∃ v, Ev (fun k => spec_DrawWrongPlaces.j1 k x l (n : Int) false s a d) (x, v) ∧ v.length ≤ l.length + 1 := by
    intro n l a d hl ha hb
    obtain ⟨b, a1, d1, e1, h1, h2⟩ := spec_l1Cur_one_ex hs d 20 ha (by omega)
    cases b with
    | true =>
      refine ⟨l ++ [1], ?_, by simp⟩
      refine Ev.step (f := fun _ => some (x, l ++ [1])) (fun k => ?_) (Ev.now _)
      rw [spec_DrawWrongPlaces.j1.eq_2, if_neg (by decide), e1, Option.bind_some]
      simp only [if_true]
      rw [if_pos (by omega)]
    | false =>
      refine ⟨l, ?_, by omega⟩
      refine Ev.step (f := fun _ => some (x, l)) (fun k => ?_) (Ev.now _)
      rw [spec_DrawWrongPlaces.j1.eq_2, if_neg (by decide), e1, Option.bind_some]
      simp only [Bool.false_eq_true, if_false]
  intro n
  induction n with
  | zero =>
    intro l a d _ hl ha hb
    obtain ⟨v, E, h⟩ := fin 0 l a d hl ha (by omega)
    refine ⟨v, Ev.step (f := fun k => spec_DrawWrongPlaces.j1 k x l ((0 : Nat) : Int) false s a d) (fun k => ?_) E, h⟩
    rw [spec_DrawWrongPlaces.l0.eq_2, if_neg (by omega)]
  | succ n ih =>
    intro l a d hn hl ha hb
    by_cases h0 : 0 < l.length
    · obtain ⟨i, a1, d1, e1, h2, h3, h4, h5, h6⟩ := spec_l1Cur_pick_ex hs d (l.length : Int) ha (by omega)
      obtain ⟨y, a2, d2, e2, g2, g3, g4, g5, g6⟩ := spec_l1Cur_pick_ex hs d1 256 h5 (by omega)
      obtain ⟨v, E, q⟩ := ih (l.set i.toNat y) a2 d2 (by omega) (by rw [List.length_set]; exact hl) g5 (by omega)
      refine ⟨v, ?_, by rw [List.length_set] at q; exact q⟩
      have ew : wrap64 (((n + 1 : Nat) : Int) - 1) = (n : Int) := by rw [wrap_in (by omega) (by omega)]; omega
      refine Ev.step (f := fun k => spec_DrawWrongPlaces.j1 k x l ((n + 1 : Nat) : Int) true s a d) (fun k => ?_) (Ev.step (f := fun k => spec_DrawWrongPlaces.l0 k x (l.set i.toNat y) (n : Int) s a2 d2) (fun k => ?_) E)
      · rw [spec_DrawWrongPlaces.l0.eq_2, if_pos (by omega), decide_eq_true (by omega)]
      · rw [spec_DrawWrongPlaces.j1.eq_2, if_pos rfl, e1, Option.bind_some]
        simp only [e2, Option.bind_some]
        rw [if_pos h2, if_pos (by omega), ew]
    · obtain ⟨v, E, h⟩ := fin (n + 1) l a d hl ha (by omega)
      refine ⟨v, Ev.step (f := fun k => spec_DrawWrongPlaces.j1 k x l ((n + 1 : Nat) : Int) false s a d) (fun k => ?_) E, h⟩
      rw [spec_DrawWrongPlaces.l0.eq_2, if_pos (by omega), decide_eq_false (by omega)]
theorem spec_DrawWrongPlaces_ex {s : List Int} (hs : BY s) : ∃ a b, Ev (fun k => spec_DrawWrongPlaces.f k s) (a, b) ∧ a.length ≤ 24 ∧ b.length ≤ 25 := by
  obtain ⟨v, t, a2, d2, E2, g1, g2, g3⟩ := spec_l1Cur_spoiltWord_ex hs (a := 0) 0 (by omega) (by omega)
  obtain ⟨x, a3, d3, e3, h2, h3, h4, h5, h6⟩ := spec_l1Cur_pick_ex hs d2 4 g2 (by omega)
  obtain ⟨n, rfl⟩ := nat_of h2
  obtain ⟨b, E, q⟩ := spec_DrawWrongPlaces_l0 hs v n v a3 d3 (by omega) (by omega) h5 (by omega)
  refine ⟨v, b, ?_, g1, by omega⟩
  unfold spec_DrawWrongPlaces.f
  refine Ev.bind E2 ?_
  simp only [Option.bind_some, List.nil_append, e3]
  have e0 : (([] : List Int).length + v.length < 17592186044416) := by simp; omega
  simp only [if_pos e0]
  exact E

theorem spec_l4Unlike_l0 (a b : List Int) (hab : a.length = b.length) (ha : a.length ≤ 1048576) : ∀ (d i : Nat) (acc : List Int), i + d = a.length → acc.length ≤ i → Ev (fun k => spec_l4Unlike.l0 k a b acc (a.length : Int) (i : Int)) (acc ++ difL i (a.drop i) (b.drop i)) := by
  intro d
  induction d with
  | zero =>
    intro i acc hi _
    obtain rfl : i = a.length := by omega
    have e : acc ++ difL a.length (a.drop a.length) (b.drop a.length) = acc := by rw [List.drop_length]; simp [difL]
    rw [e]
    exact Ev.step (f := fun _ => some acc) (fun k => by simp only [spec_l4Unlike.l0]; rw [if_neg (by omega)]) (Ev.now _)
  | succ d ih =>
    intro i acc hi hacc
    have hlt : i < a.length := by omega
    have hlt2 : i < b.length := by omega
    rw [List.drop_eq_getElem_cons hlt, List.drop_eq_getElem_cons hlt2]
    unfold difL
    by_cases e : a[i] = b[i]
    · rw [if_pos e]
      refine Ev.step (f := fun k => spec_l4Unlike.l0 k a b acc (a.length : Int) ((i + 1 : Nat) : Int)) (fun k => ?_) (ih (i + 1) acc (by omega) (by omega))
      simp only [spec_l4Unlike.l0, rd_nat a i hlt, rd_nat b i hlt2, wrap_succ i (by omega)]
      rw [if_pos (by omega), if_pos (by omega), if_pos (by omega), if_pos (by omega), if_pos e]
    · rw [if_neg e]
      have hi' := ih (i + 1) (acc ++ [(i : Int)]) (by omega) (by simp; omega)
      rw [List.append_assoc] at hi'
      refine Ev.step (f := fun k => spec_l4Unlike.l0 k a b (acc ++ [(i : Int)]) (a.length : Int) ((i + 1 : Nat) : Int)) (fun k => ?_) hi'
      simp only [spec_l4Unlike.l0, rd_nat a i hlt, rd_nat b i hlt2, wrap_succ i (by omega)]
      rw [if_pos (by omega), if_pos (by omega), if_pos (by omega), if_pos (by omega), if_neg e, if_pos (by omega)]
theorem spec_l4Unlike_ev (a b : List Int) (hab : a.length = b.length) (ha : a.length ≤ 1048576) : Ev (fun k => spec_l4Unlike.f k a b) (difL 0 a b) := by
  have := spec_l4Unlike_l0 a b hab ha a.length 0 [] (by omega) (by simp)
  simp only [List.nil_append, List.drop_zero] at this
  exact this

theorem spec_WrongPlaces_ev (a b : List Int) : Ev (fun k => spec_WrongPlaces.f k a b) (placesV a b) := by
  unfold spec_WrongPlaces.f placesV
  by_cases h : a.length = b.length
  · by_cases h2 : a.length ≤ 24
    · have z1 : (a.length : Int) = (b.length : Int) := by omega
      have z2 : ¬ (a.length : Int) > 24 := by omega
      rw [if_pos ⟨h, h2⟩]
      simp only [if_pos z1, if_neg z2]
      exact Ev.bind (f := fun _ t => some (t, true)) (spec_l4Unlike_ev a b h (by omega)) (Ev.now _)
    · have z1 : (a.length : Int) = (b.length : Int) := by omega
      have z2 : (a.length : Int) > 24 := by omega
      rw [if_neg (fun x => h2 x.2)]
      simp only [if_pos z1, if_pos z2]
      exact Ev.now _
  · have z1 : ¬ (a.length : Int) = (b.length : Int) := by omega
    rw [if_neg (fun x => h x.1)]
    simp only [if_neg z1]
    exact Ev.now _

def T_fl28 : Bool × List (List Nat × List Nat) := (true, [([], []), ([0], [0]), ([1], [1]), ([], []), ([3], [3]), ([4], [4]), ([5], [5]), ([2, 6], [2, 6]), ([0, 0, 1, 2, 3, 4, 5, 6, 7], [0]), ([8, 7, 4, 0, 1, 2, 3, 4, 5, 6, 7], [7, 8])])
def B_fl28 : List Nat := [0, 1, 3, 0, 8, 24, 56, 127, 255, 511]
theorem tab_fl28 : rtab .any (opsOf Try.f8 28) = T_fl28 := by kernel_rfl
theorem bits_fl28 : waitsOk T_fl28.2 B_fl28 = true := by kernel_rfl

theorem loc_head1 {l : List Int} {c : List Int} (h : locV l = (c, true)) : 0 < c.length ∧ rd c (0 : Int) = 1 := by
  unfold locV at h
  split at h
  rotate_left
  · cases h
  rename_i hv
  rw [Bool.and_eq_true] at hv
  obtain ⟨m, rfl, hm⟩ := allB_up hv.2
  injection h with h _
  rw [toNat_up] at h
  subst h
  have h1 := Bm.loc_head hm
  refine ⟨?_, ?_⟩
  · rw [Poly.up_length]
    apply Nat.lt_of_not_le
    intro h0
    rw [Pev.getD_out (by omega)] at h1
    cases h1
  · have := Poly.rd_up (Bm.loc m) 0
    rw [h1] at this
    exact this
theorem syn_word {l : List Int} {w : Int} {v : List Int} {q : Bool} (h : synV l w = (v, q)) : ∃ is, wordV l w = (is, q) ∧ (q = true → ∃ y : List Nat, v = Poly.up y ∧ y.length ≤ 6 ∧ is = Enc.zer y) := by
  cases hg : isLg l w with
  | false =>
    have h1 : synV l w = ([], false) := by unfold synV; rw [hg]; rfl
    have h2 : wordV l w = (false, false) := by unfold wordV; rw [hg]; rfl
    rw [h1] at h
    injection h with e1 e2
    subst e1 e2
    exact ⟨false, h2, fun h => by cases h⟩
  | true =>
    obtain ⟨m, n, rfl, rfl, hm, q1, q2, q3, q4⟩ := isLg_up hg
    rw [synV_up hg] at h
    injection h with e1 e2
    subst e1 e2
    exact ⟨_, wordV_up hg, fun _ => ⟨_, rfl, by rw [Enc.syl_length]; omega, rfl⟩⟩
theorem genV_length (a : Int) : (genV a).1.length ≤ 1000 := by
  unfold genV
  split
  · rename_i h
    obtain ⟨n, rfl, h1, h3⟩ := isW_nat h
    rw [Int.toNat_natCast, Poly.up_length, (Enc.gen_top n).1]; omega
  · simp
theorem zer_take (y : List Nat) {i : Nat} (hi : i < y.length) : Enc.zer (y.take (i + 1)) = (Enc.zer (y.take i) && (((y.getD i 0 : Nat) : Int) == 0)) := by
  unfold Enc.zer
  rw [List.take_succ_eq_append_getElem hi, List.all_append, List.getD_eq_getElem?_getD, List.getElem?_eq_getElem hi]
  simp only [List.all_cons, List.all_nil, Bool.and_true]
  congr 1
  show (y[i] == 0) = (((y[i] : Nat) : Int) == 0)
  rw [Bool.eq_iff_iff, beq_iff_eq, beq_iff_eq]; omega

theorem infoJ : (Try.prog.info? 3).map (fun i => (i.zero, i.size, i.bytes)) = some (some (.int .i64 0), 1, 8) := by kernel_rfl

def impl_EncodeWord.f (l : List Int) (a : Int) : Option (List Int × Bool) := if l.length ≤ 1048576 then some (wEncV l a) else none
theorem impl_EncodeWord_ev (l : List Int) (a : Int) (h : l.length ≤ 1048576) : impl_EncodeWord.f l a = some (wEncV l a) := if_pos h
set_option maxHeartbeats 4000000 in
set_option maxRecDepth 100000 in
theorem impl_EncodeWord.calls (A0 : Option Addr) (c0 : Nat) (l0 : List Int) (a1 : Int) (r1 : List Int) (r2 : Bool) (w : World) (hr0 : (Kd.int .i64).C w A0 l0.length l0) (hc0 : l0.length ≤ c0) (h : impl_EncodeWord.f l0 a1 = some (r1, r2)) :
    Calls Try.prog 73 #[.slice A0 l0.length c0, .int .i64 a1] w fun e w' => ∃ v0_ : Value, e = .returned (.tuple #[v0_, .bool r2]) ∧ (Kd.int .i64).R 3 w' w.heap.size (fun _ => True) v0_ r1 ∧ Below w.heap.size w w' := by
  have HR := Aside0.mk hr0
  have HC := Aside0.mk hc0
  have HB := Aside0.mk (Below.refl w.heap.size w)
  clear hr0 hc0
  unfold impl_EncodeWord.f at h
  split at h
  rotate_left
  · cases h
  rename_i hsz
  have H0 := Option.some.inj h
  clear h
  have no : wEncOk l0 a1 = false → r1 = [] ∧ r2 = false := fun hx => by
    unfold wEncV at H0
    rw [hx] at H0
    injection H0 with e1 e2
    exact ⟨e1.symm, e2.symm⟩
  have hW := impl_isWrong_eq a1
  have hG := impl_areGf_eq l0
  cases g1 : isW a1 with
  | false =>
    obtain ⟨rfl, rfl⟩ := no (by unfold wEncOk; rw [g1]; rfl)
    rw [g1] at hW
    have H1 := Aside0.mk hW
    clear hW hG g1 no H0 hsz
    go_enter Try.func73, Try.ntmps73
    go_wp2_with (go_at_call 149; refine (impl_isWrong.calls a1 false _ H1.out).mono ?_; rintro e w' ⟨rfl, ⟨nd, rfl⟩⟩)
    go_ret2
    exact ⟨_, rfl, Kd.R_nil _ _ _ _ _, pw_below_drewN HB.out _⟩
  | true =>
    obtain ⟨n, rfl, h1, h3⟩ := isW_nat g1
    rw [g1] at hW
    have H1 := Aside0.mk hW
    have y0 : (0 : Int) ≤ (n : Int) := by omega
    have y1 : (n : Int) ≤ 3 := by omega
    by_cases c1 : l0.length < 1
    · obtain ⟨rfl, rfl⟩ := no (by unfold wEncOk; rw [g1, decide_eq_false (by omega)]; rfl)
      obtain rfl : l0 = [] := List.length_eq_zero_iff.1 (by omega)
      clear hW hG g1 no H0 hsz c1
      go_enter Try.func73, Try.ntmps73
      go_wp2_with (go_at_call 149; refine (impl_isWrong.calls (n : Int) true _ H1.out).mono ?_; rintro e w' ⟨rfl, ⟨nd, rfl⟩⟩)
      go_ret2
      exact ⟨_, rfl, Kd.R_nil _ _ _ _ _, pw_below_drewN HB.out _⟩
    have p1 : (l0.length < 1) = False := eq_false c1
    have p2 : ((l0.length : Int) < 1) = False := eq_false (by omega)
    have p3 : (l0.length = 0) = False := eq_false (by omega)
    have z0 : (l0.length : Int) ≤ 1048576 := by omega
    by_cases c2 : 24 < (l0.length : Int) + 2 * (n : Int)
    · obtain ⟨rfl, rfl⟩ := no (by unfold wEncOk; rw [g1, decide_eq_false (by omega)]; rfl)
      have p4 : (24 < (l0.length : Int) + 2 * (n : Int)) = True := eq_true c2
      clear hW hG g1 no H0 hsz c1 c2
      go_enter Try.func73, Try.ntmps73
      go_wp2_with (go_at_call 149; refine (impl_isWrong.calls (n : Int) true _ H1.out).mono ?_; rintro e w' ⟨rfl, ⟨nd, rfl⟩⟩)
      go_ret2
      exact ⟨_, rfl, Kd.R_nil _ _ _ _ _, pw_below_drewN HB.out _⟩
    have p4 : (24 < (l0.length : Int) + 2 * (n : Int)) = False := eq_false c2
    cases g3 : l0.all isB with
    | false =>
      obtain ⟨rfl, rfl⟩ := no (by unfold wEncOk; rw [g1, g3, Bool.and_false, Bool.and_false])
      rw [g3] at hG
      have H2 := Aside0.mk hG
      clear hW hG g1 no H0 hsz c1 c2 g3
      go_enter Try.func73, Try.ntmps73
      go_wp2_with (first | (go_at_call 149; refine (impl_isWrong.calls (n : Int) true _ H1.out).mono ?_; rintro e w' ⟨rfl, ⟨nd, rfl⟩⟩) | (go_at_call 88; refine (impl_areGf.calls A0 c0 l0 false _ (Kd.C_drewN HR.out _) HC.out H2.out).mono ?_; rintro e w' ⟨rfl, ⟨nd3, rfl⟩⟩))
      go_ret2
      exact ⟨_, rfl, Kd.R_nil _ _ _ _ _, pw_below_drewN HB.out _⟩
    | true =>
      obtain ⟨m, rfl, hm⟩ := allB_up g3
      have hml := Poly.up_length m
      have hok : wEncOk (Poly.up m) (n : Int) = true := by unfold wEncOk; rw [g1, g3, decide_eq_true (by omega)]; rfl
      rw [wEncV_up hok] at H0
      injection H0 with e1 e2
      subst e1 e2
      rw [g3] at hG
      have H2 := Aside0.mk hG
      have hzl : (List.replicate (2 * n) 0 ++ m).length = 2 * n + m.length := by rw [List.length_append, List.length_replicate]
      obtain ⟨K3, h3'⟩ := (impl_generator_ev n (by omega)).rounds
      have hgt := Enc.gen_top n
      obtain ⟨K4, h4⟩ := (impl_divPoly_ev (List.replicate (2 * n) 0 ++ m) (Poly.gen n) (Enc.zm_Bs hm n) (Poly.gen_bytes n) (by omega) (by omega) (by omega)).rounds
      rw [rst_divI] at h4
      generalize Poly.up (Poly.tr (divI (List.replicate (2 * n) 0 ++ m) (Poly.gen n)).1) = Q at h4
      have H3 := Aside0.mk h3'
      have H4 := Aside0.mk h4
      have hrl := Enc.rst_length hm n
      have HE := Aside0.mk (show Poly.up (Enc.rst m n) ++ (Poly.up (List.replicate (2 * n) 0 ++ m)).drop (Enc.rst m n).length = Poly.up (Enc.encL m n) from by
        rw [Poly.up_drop, Poly.up_append, (encL_drop_rst m n).resolve_right (by omega)])
      have HZ := Aside0.mk (show List.replicate (2 * (n : Int)).toNat (0 : Int) ++ Poly.up m = Poly.up (List.replicate (2 * n) 0 ++ m) from by
        rw [show (2 * (n : Int)).toNat = 2 * n by omega, Poly.up_zeros, Poly.up_append])
      have HLN := Aside0.mk (show (Enc.rst m n).length ≤ 2 * n ∧ m.length ≤ 24 ∧ n ≤ 3 from ⟨hrl, by omega, h3⟩)
      clear hW hG g1 no hsz c1 c2 g3 hok h3' h4 hgt hrl hm hml
      go_enter Try.func73, Try.ntmps73
      have z1 : (0 : Int) ≤ 2 * (n : Int) := by omega
      go_wp2_with (first | (go_at_call 149; refine (impl_isWrong.calls (n : Int) true _ H1.out).mono ?_; rintro e w' ⟨rfl, ⟨nd, rfl⟩⟩) | (go_at_call 88; refine (impl_areGf.calls A0 c0 (Poly.up m) true _ (Kd.C_drewN HR.out _) HC.out H2.out).mono ?_; rintro e w' ⟨rfl, ⟨nd3, rfl⟩⟩) | ((with_reducible refine gate_dst (N := 32) rfl ?_); refine Kd.R_make (Kd.int .i64) _ 3 rfl (N := 32) rfl 23 _ _ rfl (2 * (n : Int)) rfl rfl Try.underlying23 (.int .i64 0) 8 infoJ rfl (by decide) (by omega) 0 (ok := fun _ => True) (okp := fun _ => True) rfl (fun _ hk => hk) trivial z1 (by have := HLN.out; omega) (Below.refl _ _) (Nat.le_refl _) ?_; intro v5 w5 ho5 hb5 hg5 hn5; have HO5 := Aside0.mk ho5; have HB5 := Aside0.mk hb5; clear ho5 hb5 hg5 hn5) | ((with_reducible refine gate_builtin (b := .append) (xs := #[.tmp 32, .tmp 33]) rfl ?_); at_builtin; refine Kd.R_append_rows (Kd.int .i64) (w0 := w) w.heap.size rfl (.tmp 32) (.tmp 33) 23 3 (.int .i64 0) 8 rfl Try.underlying23 infoJ rfl (by decide) (by omega) v5 (List.replicate (2 * (n : Int)).toNat 0) (Poly.up m) _ _ _ (fun _ => True) (fun _ => False) rfl rfl ?aO ?aR (fun _ _ h => h) (fun _ h => h.elim) ?aF ?aB ?aS ?aL ?_; (case aR => exact Kd.C_below HR.out (below_step (pw_below_drewN HB.out _) HB5.out)); (case aB => exact below_step (pw_below_drewN HB.out _) HB5.out); (case aF => exact (fun _ _ => trivial)); (case aO => exact Kd.R_lower HO5.out (below_size (pw_below_drewN HB.out _))); (case aS => exact below_size (below_step (pw_below_drewN HB.out _) HB5.out)); (case aL => rw [List.length_replicate, Poly.up_length]; have := HLN.out; omega); intro v6 w6 ho6 hb6 hg6 hat6; rw [HZ.out] at ho6; have HO6 := Aside0.mk ho6; have HB6 := Aside0.mk hb6; clear ho6 hb6 hg6 hat6; obtain ⟨A6, c6, eo6⟩ := Kd.R_slice HO6.out; subst eo6))
      refine (impl_generator.calls K3 (n : Int) (Poly.up (Poly.gen n)) _ H3.out).mono ?_
      rintro e w7 ⟨v7, rfl, ho7, hb7⟩
      obtain ⟨A7, c7, rfl, hc7, hC7⟩ := Kd.R_reads ho7
      have HO7 := Aside0.mk (Kd.R_below HO6.out hb7)
      have HB7 := Aside0.mk (below_step HB6.out hb7)
      have HC7 := Aside0.mk hC7
      have HN7 := Aside0.mk hc7
      clear ho7 hb7 hC7 hc7 HO6 HB6 HO5 HB5
      go_wp2_with fail
      have hq6 := Kd.R_reads' HO7.out
      refine (impl_divPoly.calls K4 A6 c6 (Poly.up (List.replicate (2 * n) 0 ++ m)) A7 c7 (Poly.up (Poly.gen n)) Q (Poly.up (Enc.rst m n)) _ hq6.2.2 hq6.2.1 HC7.out HN7.out H4.out).mono ?_
      clear hq6
      rintro e w8 ⟨v8, v9, rfl, ho8, ho9, hb8⟩
      obtain ⟨A9, c9, rfl, hc9, hC9⟩ := Kd.R_reads ho9
      have HO8 := Aside0.mk (Kd.R_below HO7.out hb8)
      have HB8 := Aside0.mk (below_step HB7.out hb8)
      have HC9 := Aside0.mk hC9
      have HI := Aside0.mk (show (Try.prog.info? 3).map (·.size) = some 1 from by kernel_rfl)
      clear ho8 ho9 hb8 hc9 hC9 HO7 HB7 HC7 HN7
      go_wp2_with ((with_reducible refine gate_builtin (b := .copy) (xs := #[.tmp 42, .tmp 43]) rfl ?_); refine Kd.R_copy (0 : Int) (w0 := w) w.heap.size rfl (.tmp 42) (.tmp 43) 23 23 3 rfl Try.underlying23 HI.out (.slice A6 (Poly.up (List.replicate (2 * n) 0 ++ m)).length c6) (Poly.up (List.replicate (2 * n) 0 ++ m)) (Poly.up (Enc.rst m n)) A9 _ c9 (fun _ => True) rfl rfl HO8.out HC9.out HB8.out (below_size HB8.out) ?_; intro w10 ho10 hb10 hg10; have HO10 := Aside0.mk ho10; have HB10 := Aside0.mk hb10; clear ho10 hb10 hg10)
      go_ret2
      have h9 := HO10.out
      rw [Nat.min_eq_left (by rw [Poly.up_length, Poly.up_length, List.length_append, List.length_replicate]; have := HLN.out; omega), List.take_length, Poly.up_length (Enc.rst m n), HE.out] at h9
      exact ⟨_, rfl, h9, HB10.out⟩

theorem sameI_c (l : List Int) (hl : l.length ≤ 1000000) {A B : Option Addr} {n m : Nat} (hn : l.length ≤ n) (hm : l.length ≤ m) (w : World) (h1 : (Kd.int .i64).C w A l.length l) (h2 : (Kd.int .i64).C w B l.length l) : Calls Try.prog 56 #[.slice A l.length n, .slice B l.length m] w fun e w' => e = .returned (.bool true) ∧ Below w.heap.size w w' := by
  obtain ⟨K, hK⟩ := (laws_sameInts_same l hl).rounds
  exact (laws_sameInts.calls K A n l B m l true w h1 hn h2 hm hK).mono fun e w' ⟨he, hd⟩ => ⟨he, hd.below⟩

set_option maxHeartbeats 4000000 in
set_option maxRecDepth 100000 in
theorem laws_FnLocators_calls (A0 : Option Addr) (c0 : Nat) (l0 : List Int) (A1 : Option Addr) (c1 : Nat) (l1 : List Int) (w : World) (hr0 : (Kd.int .u8).C w A0 l0.length l0) (hc0 : l0.length ≤ c0) (y0 : l0.length * 1 ≤ 140737488351232) (hw0 : ∀ x ∈ l0, (Lit.int .u8 x).wf = true)
    (hr1 : (Kd.int .u8).C w A1 l1.length l1) (hc1 : l1.length ≤ c1) (y1 : l1.length * 1 ≤ 140737488351232) (hw1 : ∀ x ∈ l1, (Lit.int .u8 x).wf = true) :
    Calls Try.prog 8 #[.slice A0 l0.length c0, .slice A1 l1.length c1] w fun e w' => e = .returned (.bool true) ∧ Below w.heap.size w w' := by
  have HB := Aside0.mk (Below.refl w.heap.size w)
  have HR0 := Aside0.mk hr0
  have HR1 := Aside0.mk hr1
  have HC0 := Aside0.mk hc0
  have HC1 := Aside0.mk hc1
  by_cases hlen : l0.length + l1.length ≤ 1048576
  rotate_left
  · clear hr0 hr1 hc0 hc1
    go_enter Try.func8, Try.ntmps8
    go_wp2
    go_ret
    exact ⟨rfl, HB.out⟩
  obtain ⟨s, hd1, hsl⟩ := spec_DrawLocatorOf_ex (wf_BY hw0)
  obtain ⟨W, t, hd2, hWl⟩ := spec_DrawSyndromesOf_ex (wf_BY hw1)
  obtain ⟨gg, hd3⟩ := spec_DrawGeneratorOf_ex (wf_BY hw1)
  obtain ⟨a, b, hd4, hal, hbl⟩ := spec_DrawWrongPlaces_ex (wf_BY hw1)
  obtain ⟨nn, hnE, hn3⟩ := laws_numberOf_ex (wf_BY hw0) (by omega)
  obtain ⟨KN, hN⟩ := hnE.rounds
  obtain ⟨K1, hd1⟩ := hd1.rounds
  obtain ⟨K2, hd2⟩ := hd2.rounds
  obtain ⟨K4, hd4⟩ := hd4.rounds
  have cD1 := fun w (h : (Kd.int .u8).C w A0 l0.length l0) => spec_DrawLocatorOf.calls K1 A0 c0 l0 s w h HC0.out hd1
  have cD2 := fun w (h : (Kd.int .u8).C w A1 l1.length l1) => spec_DrawSyndromesOf.calls K2 A1 c1 l1 W t w h HC1.out hd2
  have cD3 := fun w (h : (Kd.int .u8).C w A1 l1.length l1) => spec_DrawGeneratorOf.calls A1 c1 l1 gg w h HC1.out hd3
  have cD4 := fun w (h : (Kd.int .u8).C w A1 l1.length l1) => spec_DrawWrongPlaces.calls K4 A1 c1 l1 a b w h HC1.out hd4
  have HNN := Aside0.mk (fun w (h : (Kd.int .u8).C w A0 l0.length l0) => laws_numberOf.calls KN A0 c0 l0 (nn : Int) w h HC0.out hN)
  clear hd1 hd2 hd3 hd4 hnE hN hw0 hw1 hr0 hr1 hc0 hc1
  obtain ⟨c, q1, hc⟩ : ∃ c q1, locV s = (c, q1) := ⟨_, _, rfl⟩
  obtain ⟨v, q2, hv⟩ : ∃ v q2, synV W t = (v, q2) := ⟨_, _, rfl⟩
  obtain ⟨is, his, hzz⟩ := syn_word hv
  obtain ⟨p, q4, hp⟩ : ∃ p q4, genV gg = (p, q4) := ⟨_, _, rfl⟩
  obtain ⟨pl, q5, hpl⟩ : ∃ pl q5, placesV a b = (pl, q5) := ⟨_, _, rfl⟩
  have hcl : c.length ≤ 8 := by have := locV_length s; rw [hc] at this; exact this
  have hvl : v.length ≤ 6 := by have := synV_length W t; rw [hv] at this; exact this
  have hpll : pl.length ≤ 24 := by have : (pl, q5).1.length ≤ a.length := hpl ▸ placesV_length a b; exact Nat.le_trans this hal
  have hpl2 : p.length ≤ 1000 := by have : (p, q4).1.length ≤ 1000 := hp ▸ genV_length gg; exact this
  obtain ⟨K5, h5⟩ := (impl_LocatorOf_ev s).rounds
  obtain ⟨K6, h6⟩ := (spec_LocatorOf_ev s (by omega)).rounds
  obtain ⟨K7, h7⟩ := (impl_SyndromesOf_ev W t).rounds
  obtain ⟨K8, h8⟩ := (spec_SyndromesOf_ev W t (by omega)).rounds
  obtain ⟨K9, h9⟩ := (impl_IsWord_ev W t).rounds
  obtain ⟨K10, h10⟩ := (spec_IsWord_ev W t (by omega)).rounds
  obtain ⟨K11, h11⟩ := (impl_GeneratorOf_ev gg).rounds
  obtain ⟨K12, h12⟩ := (spec_GeneratorOf_ev gg).rounds
  obtain ⟨K13, h13⟩ := (impl_WrongPlaces_ev a b).rounds
  obtain ⟨K14, h14⟩ := (spec_WrongPlaces_ev a b).rounds
  rw [hc] at h5 h6
  rw [hv] at h7 h8
  rw [his] at h9 h10
  rw [hp] at h11 h12
  rw [hpl] at h13 h14
  have x1 : (q1 != q1) = false := by simp
  have x2 : (q2 != q2) = false := by simp
  have x3 : (is != is) = false := by simp
  have x4 : (q4 == q4) = true := by simp
  have x5 : (q5 == q5) = true := by simp
  have HC5 := Aside0.mk h5
  have HC6 := Aside0.mk h6
  have HC7 := Aside0.mk h7
  have HC8 := Aside0.mk h8
  have HC9 := Aside0.mk h9
  have HC10 := Aside0.mk h10
  have HC11 := Aside0.mk h11
  have HC12 := Aside0.mk h12
  have HC13 := Aside0.mk h13
  have HC14 := Aside0.mk h14
  have HV := Aside0.mk (show wordV W t = (is, q2) ∧ (q2 = true → ∃ y : List Nat, v = Poly.up y ∧ y.length ≤ 6 ∧ is = Enc.zer y) from ⟨his, hzz⟩)
  have HLC := Aside0.mk hc
  have HSM := Aside0.mk (show c.length ≤ 1000000 ∧ v.length ≤ 1000000 ∧ p.length ≤ 1000000 ∧ pl.length ≤ 1000000 from ⟨by omega, by omega, by omega, by omega⟩)
  clear h5 h6 h7 h8 h9 h10 h11 h12 h13 h14 hc hv his hzz hp hpl hcl hvl hpll hpl2 hsl hWl hal hbl hn3
  go_enter Try.func8, Try.ntmps8
  go_wp2_with fail
  refine (cD1 _ HR0.out).mono ?_
  rintro e w1 ⟨va, rfl, hva, hb⟩
  replace HB := Aside0.mk hb
  replace HR0 := Aside0.mk (Kd.C_below HR0.out hb)
  replace HR1 := Aside0.mk (Kd.C_below HR1.out hb)
  obtain ⟨A2, n2, rfl, hn2, hC2⟩ := Kd.R_reads hva
  have HP := Aside0.mk hC2
  have HN2 := Aside0.mk hn2
  clear hb hva hC2 hn2
  go_wp2_with fail
  refine (impl_LocatorOf.calls K5 A2 n2 s c q1 _ HP.out HN2.out HC5.out).mono ?_
  rintro e w2 ⟨va, rfl, hva, hb⟩
  obtain ⟨A3, n3, rfl, hn3, hC3⟩ := Kd.R_reads hva
  have HD := Aside0.mk hC3
  have HN3 := Aside0.mk hn3
  clear hva hC3 hn3
  replace HB := Aside0.mk (HB.out.trans (hb.mono HB.out.size))
  replace HR0 := Aside0.mk (Kd.C_below HR0.out hb)
  replace HR1 := Aside0.mk (Kd.C_below HR1.out hb)
  replace HP := Aside0.mk (Kd.C_below HP.out hb)
  clear hb
  go_wp2_with fail
  refine (spec_LocatorOf.calls K6 A2 n2 s c q1 _ HP.out HN2.out HC6.out).mono ?_
  rintro e w3 ⟨va, rfl, hva, hb⟩
  obtain ⟨A4, n4, rfl, hn4, hC4⟩ := Kd.R_reads hva
  have HE := Aside0.mk hC4
  have HN4 := Aside0.mk hn4
  clear hva hC4 hn4
  replace HB := Aside0.mk (HB.out.trans (hb.mono HB.out.size))
  replace HR0 := Aside0.mk (Kd.C_below HR0.out hb)
  replace HR1 := Aside0.mk (Kd.C_below HR1.out hb)
  replace HP := Aside0.mk (Kd.C_below HP.out hb)
  replace HD := Aside0.mk (Kd.C_below HD.out hb)
  clear hb
  go_wp2_with fail
  refine (sameI_c c HSM.out.1 HN3.out HN4.out _ HD.out HE.out).mono ?_
  rintro e w4 ⟨rfl, hb⟩
  replace HB := Aside0.mk (HB.out.trans (hb.mono HB.out.size))
  replace HR0 := Aside0.mk (Kd.C_below HR0.out hb)
  replace HR1 := Aside0.mk (Kd.C_below HR1.out hb)
  replace HP := Aside0.mk (Kd.C_below HP.out hb)
  replace HD := Aside0.mk (Kd.C_below HD.out hb)
  replace HE := Aside0.mk (Kd.C_below HE.out hb)
  clear hb
  go_upto_region 8 with (fail)
  go_cut [77] (fun v77 wc => v77 = .bool false ∧ Aside0 (Below w.heap.size w wc) ∧ Aside0 ((Kd.int .u8).C wc A0 l0.length l0) ∧ Aside0 ((Kd.int .u8).C wc A1 l1.length l1))
  case first =>
    as_aux_lemma =>
      cases q1 with
      | false =>
        clear cD2 cD3 cD4
        go_wp2
        go_meet
        case rel => exact ⟨rfl, HB, HR0, HR1⟩
      | true =>
        obtain ⟨g1, g2⟩ := loc_head1 HLC.out
        obtain ⟨ad, eA, hx⟩ := Kd.at_int HD.out 0 (Int.le_refl _) (by omega)
        cases eA
        rw [g2] at hx
        rw [show Int.toNat 0 = 0 from rfl, Addr.add_zero'] at hx
        have p1 : (c.length = 0) = False := eq_false (by omega)
        have p2 : ((c.length : Int) == 0) = false := by rw [beq_eq_false_iff_ne]; omega
        have p3 : (0 < c.length) = True := eq_true g1
        have p4 : (0 < (c.length : Int)) = True := eq_true (by omega)
        clear cD2 cD3 cD4 g1 g2
        go_wp2
        go_meet
        case rel => exact ⟨rfl, HB, HR0, HR1⟩
  case rest =>
    as_aux_lemma =>
      clear HB HR0 HR1 HP HD HE HN2 HN3 HN4 HC5 HC6 HLC cD1 x1
      obtain ⟨rfl, HB, HR0, HR1⟩ := hcut
      go_wp2_with fail
      refine (cD2 _ HR1.out).mono ?_
      rintro e w11 ⟨va, rfl, hva, hb⟩
      obtain ⟨A2, n2, rfl, hn2, hC2⟩ := Kd.R_reads hva
      have HP := Aside0.mk hC2
      have HN2 := Aside0.mk hn2
      clear hva hC2 hn2
      replace HB := Aside0.mk (HB.out.trans (hb.mono HB.out.size))
      replace HR0 := Aside0.mk (Kd.C_below HR0.out hb)
      replace HR1 := Aside0.mk (Kd.C_below HR1.out hb)
      clear hb
      go_wp2_with fail
      refine (impl_SyndromesOf.calls K7 A2 n2 W t v q2 _ HP.out HN2.out HC7.out).mono ?_
      rintro e w12 ⟨va, rfl, hva, hb⟩
      obtain ⟨A3, n3, rfl, hn3, hC3⟩ := Kd.R_reads hva
      have HD := Aside0.mk hC3
      have HN3 := Aside0.mk hn3
      clear hva hC3 hn3
      replace HB := Aside0.mk (HB.out.trans (hb.mono HB.out.size))
      replace HR0 := Aside0.mk (Kd.C_below HR0.out hb)
      replace HR1 := Aside0.mk (Kd.C_below HR1.out hb)
      replace HP := Aside0.mk (Kd.C_below HP.out hb)
      clear hb
      go_wp2_with fail
      refine (spec_SyndromesOf.calls K8 A2 n2 W t v q2 _ HP.out HN2.out HC8.out).mono ?_
      rintro e w13 ⟨va, rfl, hva, hb⟩
      obtain ⟨A4, n4, rfl, hn4, hC4⟩ := Kd.R_reads hva
      have HE := Aside0.mk hC4
      have HN4 := Aside0.mk hn4
      clear hva hC4 hn4
      replace HB := Aside0.mk (HB.out.trans (hb.mono HB.out.size))
      replace HR0 := Aside0.mk (Kd.C_below HR0.out hb)
      replace HR1 := Aside0.mk (Kd.C_below HR1.out hb)
      replace HP := Aside0.mk (Kd.C_below HP.out hb)
      replace HD := Aside0.mk (Kd.C_below HD.out hb)
      clear hb
      go_wp2_with fail
      refine (impl_IsWord.calls K9 A2 n2 W t is q2 _ HP.out HN2.out HC9.out).mono ?_
      rintro e w14 ⟨rfl, hb⟩
      replace HB := Aside0.mk (HB.out.trans (hb.mono HB.out.size))
      replace HR0 := Aside0.mk (Kd.C_below HR0.out hb)
      replace HR1 := Aside0.mk (Kd.C_below HR1.out hb)
      replace HP := Aside0.mk (Kd.C_below HP.out hb)
      replace HD := Aside0.mk (Kd.C_below HD.out hb)
      replace HE := Aside0.mk (Kd.C_below HE.out hb)
      clear hb
      go_wp2_with fail
      refine (spec_IsWord.calls K10 A2 n2 W t is q2 _ HP.out HN2.out HC10.out).mono ?_
      rintro e w15 ⟨rfl, hb⟩
      replace HB := Aside0.mk (HB.out.trans (hb.mono HB.out.size))
      replace HR0 := Aside0.mk (Kd.C_below HR0.out hb)
      replace HR1 := Aside0.mk (Kd.C_below HR1.out hb)
      replace HP := Aside0.mk (Kd.C_below HP.out hb)
      replace HD := Aside0.mk (Kd.C_below HD.out hb)
      replace HE := Aside0.mk (Kd.C_below HE.out hb)
      clear hb
      go_wp2_with fail
      refine (sameI_c v HSM.out.2.1 HN3.out HN4.out _ HD.out HE.out).mono ?_
      rintro e w16 ⟨rfl, hb⟩
      replace HB := Aside0.mk (HB.out.trans (hb.mono HB.out.size))
      replace HR0 := Aside0.mk (Kd.C_below HR0.out hb)
      replace HR1 := Aside0.mk (Kd.C_below HR1.out hb)
      replace HP := Aside0.mk (Kd.C_below HP.out hb)
      replace HD := Aside0.mk (Kd.C_below HD.out hb)
      replace HE := Aside0.mk (Kd.C_below HE.out hb)
      clear hb
      clear HE HN4 HC7 HC8 HC9 HC10 cD2
      go_upto_if 131 with (fail)
      go_cut [] (fun wc => Aside0 (Below w.heap.size w wc) ∧ Aside0 ((Kd.int .u8).C wc A1 l1.length l1))
      case first =>
        as_aux_lemma =>
          clear cD3 cD4 HC11 HC12 HC13 HC14 x4 x5
          cases q2 with
          | false =>
            clear HNN HV x2 x3
            go_wp2
            go_meet
            exact ⟨HB, HR1⟩
          | true =>
            obtain ⟨y, rfl, hyl, hy⟩ := HV.out.2 rfl
            have HY := Aside0.mk (show y.length ≤ 6 ∧ is = Enc.zer y from ⟨hyl, hy⟩)
            have HWV := Aside0.mk HV.out.1
            have hul := Poly.up_length y
            clear hyl hy HV x2 x3
            have HUL := Aside0.mk hul
            clear hul
            go_wp2
            go_loopg [20, 134] (Poly.up y).length (fun gg v20 v134 wr => ∃ i : Nat, i ≤ (Poly.up y).length ∧ (Poly.up y).length - i ≤ gg ∧ v20 = .bool (Enc.zer (y.take i)) ∧ v134 = .int .i64 i ∧ wr = w16)
            case atStart => exact ⟨0, Nat.zero_le _, by omega, rfl, rfl, rfl⟩
            case round =>
              obtain ⟨i, hi', hgi, rfl, rfl, rfl⟩ := hrel
              have z0 : (0 : Int) ≤ (i : Int) := by omega
              have z1 : (i : Int) ≤ 100 := by have := HUL.out; have := HY.out.1; omega
              by_cases hlt : i < (Poly.up y).length
              · have j1 : ((i : Int) < ((Poly.up y).length : Int)) = True := eq_true (by omega)
                have j2 : (i < (Poly.up y).length) = True := eq_true hlt
                obtain ⟨ad, eA, hx⟩ := Kd.at_int HD.out (i : Int) z0 (by omega)
                cases eA
                rw [Poly.rd_up, Int.toNat_natCast] at hx
                have HZ := Aside0.mk (zer_take y (i := i) (by have := HUL.out; omega))
                generalize y.getD i 0 = k at hx HZ
                by_cases hk : k = 0
                · subst hk
                  cases hz : Enc.zer (y.take i) with
                  | false =>
                    rw [hz] at HZ
                    clear hz
                    go_wp2
                    go_roundg ((Poly.up y).length - (i + 1))
                    case measure => omega
                    case rel => exact ⟨i + 1, by omega, by omega, by rw [HZ.out]; rfl, by go_num, rfl⟩
                  | true =>
                    rw [hz] at HZ
                    clear hz
                    go_wp2
                    go_roundg ((Poly.up y).length - (i + 1))
                    case measure => omega
                    case rel => exact ⟨i + 1, by omega, by omega, by rw [HZ.out]; rfl, by go_num, rfl⟩
                · have k1 : ((k : Int) == 0) = false := by rw [beq_eq_false_iff_ne]; omega
                  have k2 : (k = 0) = False := eq_false hk
                  have hz2 : Enc.zer (y.take (i + 1)) = false := by rw [HZ.out, k1, Bool.and_false]
                  have HZ2 := Aside0.mk hz2
                  clear hz2 HZ hk
                  cases hz : Enc.zer (y.take i) with
                  | false =>
                    clear hz
                    go_wp2
                    go_roundg ((Poly.up y).length - (i + 1))
                    case measure => omega
                    case rel => exact ⟨i + 1, by omega, by omega, by rw [HZ2.out], by go_num, rfl⟩
                  | true =>
                    clear hz
                    go_wp2
                    go_roundg ((Poly.up y).length - (i + 1))
                    case measure => omega
                    case rel => exact ⟨i + 1, by omega, by omega, by rw [HZ2.out], by go_num, rfl⟩
              · have j1 : ((i : Int) < ((Poly.up y).length : Int)) = False := eq_false (by omega)
                have j2 : (i < (Poly.up y).length) = False := eq_false hlt
                have hz : Enc.zer (y.take i) = is := by
                  rw [List.take_of_length_le (by have := HUL.out; omega)]; exact HY.out.2.symm
                rw [hz]
                clear hz HY HUL
                cases is with
                | false =>
                  clear HNN
                  go_wp2
                  go_meet
                  exact ⟨HB, HR1⟩
                | true =>
                  obtain ⟨m, n, rfl, rfl, hn1, hn3, hml, hm24, hmb, hok, p', hpp, hpl'⟩ := other_word HWV.out (1 + nn % 255) (by omega) (by have := Nat.mod_lt nn (show 255 > 0 by decide); omega)
                  have hq : nn % 255 < 255 := Nat.mod_lt nn (by decide)
                  have e1 : (nn : Int) % 255 = ((nn % 255 : Nat) : Int) := by omega
                  have e2 : Int.tmod (nn : Int) 255 = ((nn % 255 : Nat) : Int) := rfl
                  generalize nn % 255 = q at e1 e2 hq hok hpp
                  have hee : wEncV (Poly.up ((m.drop (2 * n)).set 0 (m.getD (2 * n) 0 ^^^ (1 + q)))) (n : Int) = ((wEncV (Poly.up ((m.drop (2 * n)).set 0 (m.getD (2 * n) 0 ^^^ (1 + q)))) (n : Int)).1, true) := by rw [wEncV_up hok]
                  have h15 := impl_EncodeWord_ev (Poly.up ((m.drop (2 * n)).set 0 (m.getD (2 * n) 0 ^^^ (1 + q)))) (n : Int) (by rw [Poly.up_length, List.length_set, List.length_drop]; omega)
                  rw [hee] at h15
                  have hel := wEncV_length (Poly.up ((m.drop (2 * n)).set 0 (m.getD (2 * n) 0 ^^^ (1 + q)))) (n : Int)
                  generalize (wEncV (Poly.up ((m.drop (2 * n)).set 0 (m.getD (2 * n) 0 ^^^ (1 + q)))) (n : Int)).1 = E at h15 hpp hel
                  obtain ⟨K16, h16⟩ := (impl_WrongPlaces_ev E (Poly.up m)).rounds
                  rw [hpp] at h16
                  have HE16 := Aside0.mk h16
                  have hxb := hmb.get (2 * n)
                  have HXO := Aside0.mk (show (Poly.up (m.drop (2 * n))).set 0 (Go.bits .xor .i64 ((m.getD (2 * n) 0 : Nat) : Int) (wrap64 (1 + (q : Int)))) = Poly.up ((m.drop (2 * n)).set 0 (m.getD (2 * n) 0 ^^^ (1 + q))) from by
                    rw [show wrap64 ((1 : Int) + (q : Int)) = ((1 + q : Nat) : Int) by rw [wrap_in (by omega) (by omega)]; omega, xor_nat (Nat.lt_trans hxb (by decide)) (by omega), Poly.up_set])
                  have hD0 : rd (Poly.up (m.drop (2 * n))) (0 : Int) = ((m.getD (2 * n) 0 : Nat) : Int) := by
                    have := Poly.rd_up (m.drop (2 * n)) 0
                    rw [show (m.drop (2 * n)).getD 0 0 = m.getD (2 * n) 0 by rw [List.getD_eq_getElem?_getD, List.getElem?_drop, List.getD_eq_getElem?_getD]; rfl] at this
                    exact this
                  have hDl : 0 < (Poly.up (m.drop (2 * n))).length := by rw [Poly.up_length, List.length_drop]; omega
                  have hDd : (Poly.up m).drop (2 * n) = Poly.up (m.drop (2 * n)) := Poly.up_drop m _
                  have hul := Poly.up_length m
                  have y0 : (0 : Int) ≤ (n : Int) := by omega
                  have y1 : (n : Int) ≤ 3 := by omega
                  have s1 : (2 * (n : Int) ≤ ((Poly.up m).length : Int)) = True := eq_true (by omega)
                  have s2 : (2 * n ≤ (Poly.up m).length) = True := eq_true (by omega)
                  have s3 : (2 * (n : Int)).toNat = 2 * n := by omega
                  have q0 : (0 : Int) ≤ (q : Int) := by omega
                  have q1' : (q : Int) ≤ 254 := by omega
                  have hM2l : (Poly.up ((m.drop (2 * n)).set 0 (m.getD (2 * n) 0 ^^^ (1 + q)))).length = (Poly.up (m.drop (2 * n))).length := by rw [Poly.up_length, Poly.up_length, List.length_set]
                  generalize (m.drop (2 * n)).set 0 (m.getD (2 * n) 0 ^^^ (1 + q)) = M2 at h15 hM2l HXO
                  have HE15 := Aside0.mk h15
                  have HM2L := Aside0.mk hM2l
                  generalize m.getD (2 * n) 0 = x at HXO hD0
                  have p1 : (0 < (Poly.up (m.drop (2 * n))).length) = True := eq_true hDl
                  have p2 : (0 < ((Poly.up (m.drop (2 * n))).length : Int)) = True := eq_true (by omega)
                  clear hpp h15 h16 hee hok hxb hM2l
                  obtain ⟨ad, eA, _⟩ := Kd.at_int HP.out 0 (Int.le_refl _) (by omega)
                  cases eA
                  have s4 : (n2 = 2 * n) = False := eq_false (by have := HN2.out; omega)
                  have s5 : (2 * n = n2) = False := eq_false (by have := HN2.out; omega)
                  have s6 : (2 * n ≤ n2) = True := eq_true (by have := HN2.out; omega)
                  have hCD := Kd.C_drop HP.out (m := 2 * n) (by omega) HN2.out
                  rw [if_neg (by have := HN2.out; omega), hDd, show 2 * n * (Kd.int .i64).sz = 2 * n from Nat.mul_one _] at hCD
                  have HDN := Aside0.mk (show (Poly.up m).length - 2 * n = (Poly.up (m.drop (2 * n))).length from by rw [Poly.up_length, Poly.up_length, List.length_drop])
                  rw [← HDN.out] at hCD
                  have HCD := Aside0.mk (show (Kd.int .i64).C wr (some (ad.add (2 * n))) ((Poly.up m).length - 2 * n) (Poly.up (m.drop (2 * n))) from hCD)
                  have HDL := Aside0.mk (show (Poly.up (m.drop (2 * n))).length ≤ 24 ∧ 0 < (Poly.up (m.drop (2 * n))).length from ⟨by rw [Poly.up_length, List.length_drop]; omega, hDl⟩)
                  have HD0 := Aside0.mk hD0
                  have HML := Aside0.mk hul
                  have HB0 := Aside0.mk (Below.refl wr.heap.size wr)
                  clear hCD hDd hD0 hDl hul
                  go_upto_region 28 with (first | ((with_reducible refine gate_dst (N := 148) rfl ?_); refine Kd.R_lit (Kd.int .i64) _ 3 ?hg (N := 148) ?hd (xs := ([] : List Int)) (inner := []) (ok := fun _ => True) (okp := fun _ => True) ?hr ?hp (fun _ hk => hk) trivial (Below.refl _ _) (Nat.le_refl _) (by simp) ?_; (case hd => rfl); (case hg => rfl); (case hr => first | (go_simp; done) | (go_simp; rfl)); (case hp => exact (Reps.none _ _)); intro v20 w20 ho20 hb20 _ _; have HBL0 := Aside0.mk hb20; have HSL0 := Aside0.mk ho20; clear ho20 hb20) | ((with_reducible refine gate_builtin (b := .append) (xs := #[.tmp 148, .tmp 152]) rfl ?_); at_builtin; refine Kd.R_append_rows (Kd.int .i64) (w0 := wr) wr.heap.size rfl (.tmp 148) (.tmp 152) 23 3 (.int .i64 0) 8 rfl Try.underlying23 infoJ rfl (by decide) (by omega) v20 ([] : List Int) (Poly.up (m.drop (2 * n))) _ _ _ (fun _ => True) (fun _ => False) rfl rfl ?aO ?aR (fun _ _ h => h) (fun _ h => h.elim) ?aF ?aB ?aS ?aL ?_; (case aR => exact Kd.C_below HCD.out HBL0.out); (case aB => exact HBL0.out); (case aF => exact (fun _ _ => trivial)); (case aO => exact HSL0.out); (case aS => exact HBL0.out.size); (case aL => have h1 := HDL.out; have h2 := HDN.out; show (0 + ((Poly.up m).length - 2 * n)) * 8 ≤ 140737488355328; omega); intro v21 w21 ho21 hb21 hg21 hat21; rw [List.nil_append] at ho21; have HO := Aside0.mk ho21; have HBM := Aside0.mk hb21; clear ho21 hb21 hg21 hat21 HBL0 HSL0))
                  obtain ⟨g, cg, rfl, hg0, hg1, cl, hcl⟩ := Kd.R_form HO.out HDL.out.2
                  have hx0 : w21.drew.cell? ⟨g, 0, none⟩ = some (.int .i64 (x : Int)) := by
                    have h := (Kd.R_celln (0 : Int) (Kd.R_drew HO.out) (0 : Int) (Int.le_refl _) (by have := HDL.out; omega)).1
                    have h2 : w21.drew.cell? ⟨g, 0, none⟩ = some (.int .i64 (rd (Poly.up (m.drop (2 * n))) (0 : Int))) := h
                    rw [HD0.out] at h2
                    exact h2
                  have hput : ∀ W', Below w21.drew.heap.size w21.drew W' → (∃ v, W'.cell? ⟨g, 0, none⟩ = some v) ∧ W'.frozen? ⟨g, 0, none⟩ = false ∧ (Kd.int .i64).R 3 (W'.setCell ⟨g, 0, none⟩ (.int .i64 (Go.bits .xor .i64 (x : Int) (wrap64 (1 + (q : Int)))))) wr.heap.size (fun _ => True) (.slice (some ⟨g, 0, none⟩) (Poly.up (m.drop (2 * n))).length cg) (Poly.up M2) ∧ Below wr.heap.size wr (W'.setCell ⟨g, 0, none⟩ (.int .i64 (Go.bits .xor .i64 (x : Int) (wrap64 (1 + (q : Int)))))) := fun W' hW => by
                    have hR1 := Kd.R_below (Kd.R_drew HO.out) hW
                    have hc1 := Kd.R_celln (0 : Int) hR1 (0 : Int) (Int.le_refl _) (by have := HDL.out; omega)
                    have hp := Kd.R_putg hR1 (0 : Int) (Go.bits .xor .i64 (x : Int) (wrap64 (1 + (q : Int))))
                    rw [show (0 : Int).toNat = 0 from rfl, HXO.out] at hp
                    exact ⟨⟨_, hc1.1⟩, hc1.2, hp.1, below_set (below_step (below_drew HBM.out) hW) hg0⟩
                  have HPW := Aside0.mk hput
                  have HRD := Aside0.mk (Kd.C_drew (Kd.C_below HR0.out HBM.out))
                  clear hput HO hcl hg1 HXO HD0
                  go_wp2_with fail
                  refine start_ (n := 10) (S := fun w' => w'.cell? ⟨g, 0, none⟩ = some (.int .i64 (x : Int))) (ds := [9]) #[false, false, false, false, false, false, false, false, false, false] (by kernel_rfl) rfl rfl (hx0) (fun hHeld => ?_); refine with_tabW tab_fl28 bits_fl28 (fun HT_ HW_ => ?_)
                  generalize w21.drew = w5 at HPW HRD hx0 hHeld ⊢
                  refine pure_ (i := 0) (N := some 154) (v := ?_) (a' := ?_) #[true, false, false, false, false, false, false, false, false, false] rfl rfl (any_of HT_.out (by kernel_rfl)) (fun _ _ _ h => h) (Or.inl ⟨by rfl, ?_⟩) ?_ ?_
                  rotate_left
                  · intro w'
                    go_simp
                    with_reducible rfl
                  rotate_left
                  · simp only [Act.put, List.setIfInBounds_toArray, List.set_cons_zero, List.set_cons_succ, i64_w, i32_w]
                    rfl
                  refine pure_ (i := 1) (N := some 155) (v := ?_) (a' := ?_) #[true, true, false, false, false, false, false, false, false, false] rfl rfl (any_of HT_.out (by kernel_rfl)) (fun _ _ _ h => h) (Or.inl ⟨by rfl, ?_⟩) ?_ ?_
                  rotate_left
                  · intro w'
                    go_simp
                    with_reducible rfl
                  rotate_left
                  · simp only [Act.put, List.setIfInBounds_toArray, List.set_cons_zero, List.set_cons_succ, i64_w, i32_w]
                    rfl
                  refine pure_ (i := 3) (N := some 157) (v := ?_) (a' := ?_) #[true, true, false, true, false, false, false, false, false, false] rfl rfl (any_of HT_.out (by kernel_rfl)) (fun _ _ _ h => h) (Or.inl ⟨by rfl, ?_⟩) ?_ ?_
                  rotate_left
                  · intro w'
                    go_simp
                    with_reducible rfl
                  rotate_left
                  · simp only [Act.put, List.setIfInBounds_toArray, List.set_cons_zero, List.set_cons_succ, i64_w, i32_w]
                    rfl
                  refine take_ (i := 2) (N := some 156) (v := ?_) (a' := ?_) #[true, true, true, true, false, false, false, false, false, false] rfl rfl (take_ofW HT_.out HW_.out (by kernel_rfl)) (fun _ _ _ h => h) (Or.inl ⟨by rfl, ?_⟩) hHeld ?_ ?_
                  rotate_left
                  · intro w' s0
                    go_simp
                    with_reducible rfl
                  rotate_left
                  · simp only [Act.put, List.setIfInBounds_toArray, List.set_cons_zero, List.set_cons_succ, i64_w, i32_w]
                    rfl
                  refine one_ (i := 4) (N := some 158) #[true, true, true, true, true, false, false, false, false, false] rfl rfl (one_of HT_.out (by kernel_rfl)) (by decide) (fun K hK => ?_)
                  refine goes_ Try.func39 (by kernel_rfl) rfl #[.slice A0 l0.length c0] (by rfl) rfl rfl (by (try simp only [List.map_toArray, List.map_cons, List.map_nil]); first | done | rfl | (simp only [List.length_drop, List.length_take]; rfl)) ?_
                  refine (HNN.out _ HRD.out).mono ?_
                  rintro e w22 ⟨rfl, hd4⟩
                  refine ⟨_, rfl, ?_⟩
                  obtain ⟨⟨v4, hv4⟩, hf4, hR4, hB4⟩ := HPW.out w22 hd4.below
                  have HR4 := Aside0.mk hR4
                  have HB4 := Aside0.mk hB4
                  have hS4 := pw_cell_below hd4.below hx0
                  clear hR4 hB4 hd4 HPW hx0 HNN HRD
                  refine hK.out _ _ hS4 (fun hHeld => ?_)
                  clear hK K hS4
                  refine norm_ (a' := ?_) ?_ ?_
                  rotate_left
                  · show Act.put _ (some 158) _ = _
                    simp only [Act.put, List.setIfInBounds_toArray, List.set_cons_zero, List.set_cons_succ, i64_w, i32_w]
                    rfl
                  refine pure_ (i := 5) (N := some 159) (v := ?_) (a' := ?_) #[true, true, true, true, true, true, false, false, false, false] rfl rfl (any_of HT_.out (by kernel_rfl)) (fun _ _ _ h => h) (Or.inl ⟨by rfl, ?_⟩) ?_ ?_
                  rotate_left
                  · intro w'
                    go_simp
                    with_reducible rfl
                  rotate_left
                  · simp only [Act.put, List.setIfInBounds_toArray, List.set_cons_zero, List.set_cons_succ, i64_w, i32_w]
                    rfl
                  refine pure_ (i := 6) (N := some 160) (v := ?_) (a' := ?_) #[true, true, true, true, true, true, true, false, false, false] rfl rfl (any_of HT_.out (by kernel_rfl)) (fun _ _ _ h => h) (Or.inl ⟨by rfl, ?_⟩) ?_ ?_
                  rotate_left
                  · intro w'
                    go_simp
                    with_reducible rfl
                  rotate_left
                  · simp only [Act.put, List.setIfInBounds_toArray, List.set_cons_zero, List.set_cons_succ, i64_w, i32_w]
                    rfl
                  refine pure_ (i := 7) (N := some 161) (v := ?_) (a' := ?_) #[true, true, true, true, true, true, true, true, false, false] rfl rfl (any_of HT_.out (by kernel_rfl)) (fun _ _ _ h => h) (Or.inl ⟨by rfl, ?_⟩) ?_ ?_
                  rotate_left
                  · intro w'
                    go_simp
                    with_reducible rfl
                  rotate_left
                  · simp only [Act.put, List.setIfInBounds_toArray, List.set_cons_zero, List.set_cons_succ, i64_w, i32_w]
                    rfl
                  refine pure_ (i := 8) (N := some 162) (v := ?_) (a' := ?_) #[true, true, true, true, true, true, true, true, true, false] rfl rfl (any_of HT_.out (by kernel_rfl)) (fun _ _ _ h => h) (Or.inl ⟨by rfl, ?_⟩) ?_ ?_
                  rotate_left
                  · intro w'
                    go_simp
                    with_reducible rfl
                  rotate_left
                  · simp only [Act.put, List.setIfInBounds_toArray, List.set_cons_zero, List.set_cons_succ, i64_w, i32_w]
                    rfl
                  refine last_ (i := 9) (N := none) #[true, true, true, true, true, true, true, true, true, true] rfl rfl (one_of HT_.out (by kernel_rfl)) (by decide) (fun K hK => ?_)
                  refine skip_ (w1 := ?_) (by rfl) rfl ?_ ?_
                  rotate_left
                  · go_simp
                    rfl
                  refine hK.out _ _ ?_
                  clear hK K
                  refine done_ (done_of HT_.out (by kernel_rfl)) ?_
                  have hq9 := Kd.R_reads' HR4.out
                  have hcE := fun W (hC : (Kd.int .i64).C W (some ⟨g, 0, none⟩) (Poly.up M2).length (Poly.up M2)) (hle : (Poly.up M2).length ≤ cg) => impl_EncodeWord.calls (some ⟨g, 0, none⟩) cg (Poly.up M2) (n : Int) E true W hC hle HE15.out
                  rw [HM2L.out] at hq9
                  simp only [HM2L.out] at hcE
                  have HCE := Aside0.mk hcE
                  have HQ9 := Aside0.mk hq9
                  have hpl1 : ((p'.length : Int) ≤ 2 * (n : Int)) = False := eq_false (by omega)
                  have hpl2 : (p'.length ≤ 2 * n) = False := eq_false (by omega)
                  clear hcE hq9 e1 e2 hv4 hf4 p1 p2 q0 q1' s1 s2 s3 s4 s5 s6 hel hpl'
                  go_wp2_with fail
                  refine (HCE.out _ HQ9.out.2.2 HQ9.out.2.1).mono ?_
                  rintro e w31 ⟨va, rfl, hva, hb⟩
                  obtain ⟨A5, n5, rfl, hn5, hC5⟩ := Kd.R_reads hva
                  have HF := Aside0.mk hC5
                  have HN5 := Aside0.mk hn5
                  have HB5 := Aside0.mk (below_step HB4.out hb)
                  have HPN := Aside0.mk (Kd.C_below HP.out HB5.out)
                  clear hva hC5 hn5 hb HCE HQ9 HR4 HB4
                  go_wp2_with fail
                  refine (impl_WrongPlaces.calls K16 A5 n5 E (some ad) n2 (Poly.up m) p' true _ HF.out HN5.out HPN.out HN2.out HE16.out).mono ?_
                  rintro e w32 ⟨va, rfl, hva, hb⟩
                  obtain ⟨A6, n6, rfl, hn6, hC6⟩ := Kd.R_reads hva
                  have HB6 := Aside0.mk (below_step HB5.out hb)
                  clear hva hC6 hn6 hb HF HN5 HPN HB5
                  go_wp2
                  go_meet
                  exact ⟨⟨below_step HB.out HB6.out⟩, ⟨Kd.C_below HR1.out HB6.out⟩⟩
      case rest =>
        as_aux_lemma =>
          clear HB HR0 HR1 HP HD HN2 HN3 HNN HV x2 x3
          obtain ⟨HB, HR1⟩ := hcut
          go_wp2_with fail
          refine (cD3 _ HR1.out).mono ?_
          rintro e w21 ⟨rfl, hb⟩
          replace HB := Aside0.mk (HB.out.trans (hb.mono HB.out.size))
          replace HR1 := Aside0.mk (Kd.C_below HR1.out hb)
          clear hb
          go_wp2_with fail
          refine (impl_GeneratorOf.calls K11 gg p q4 _ HC11.out).mono ?_
          rintro e w22 ⟨va, rfl, hva, hb⟩
          obtain ⟨A2, n2, rfl, hn2, hC2⟩ := Kd.R_reads hva
          have HP := Aside0.mk hC2
          have HN2 := Aside0.mk hn2
          clear hva hC2 hn2
          replace HB := Aside0.mk (HB.out.trans (hb.mono HB.out.size))
          replace HR1 := Aside0.mk (Kd.C_below HR1.out hb)
          clear hb
          go_wp2_with fail
          refine (spec_GeneratorOf.calls K12 gg p q4 _ HC12.out).mono ?_
          rintro e w23 ⟨va, rfl, hva, hb⟩
          obtain ⟨A3, n3, rfl, hn3, hC3⟩ := Kd.R_reads hva
          have HD := Aside0.mk hC3
          have HN3 := Aside0.mk hn3
          clear hva hC3 hn3
          replace HB := Aside0.mk (HB.out.trans (hb.mono HB.out.size))
          replace HR1 := Aside0.mk (Kd.C_below HR1.out hb)
          replace HP := Aside0.mk (Kd.C_below HP.out hb)
          clear hb
          go_wp2_with fail
          refine (cD4 _ HR1.out).mono ?_
          rintro e w24 ⟨va, vb, rfl, hva, hvb, hb⟩
          obtain ⟨A4, n4, rfl, hn4, hC4⟩ := Kd.R_reads hva
          obtain ⟨A5, n5, rfl, hn5, hC5⟩ := Kd.R_reads hvb
          have HE := Aside0.mk hC4
          have HN4 := Aside0.mk hn4
          have HF := Aside0.mk hC5
          have HN5 := Aside0.mk hn5
          clear hva hvb hC4 hn4 hC5 hn5
          replace HB := Aside0.mk (HB.out.trans (hb.mono HB.out.size))
          replace HR1 := Aside0.mk (Kd.C_below HR1.out hb)
          replace HP := Aside0.mk (Kd.C_below HP.out hb)
          replace HD := Aside0.mk (Kd.C_below HD.out hb)
          clear hb
          go_wp2_with fail
          refine (impl_WrongPlaces.calls K13 A4 n4 a A5 n5 b pl q5 _ HE.out HN4.out HF.out HN5.out HC13.out).mono ?_
          rintro e w25 ⟨va, rfl, hva, hb⟩
          obtain ⟨A6, n6, rfl, hn6, hC6⟩ := Kd.R_reads hva
          have HG := Aside0.mk hC6
          have HN6 := Aside0.mk hn6
          clear hva hC6 hn6
          replace HB := Aside0.mk (HB.out.trans (hb.mono HB.out.size))
          replace HR1 := Aside0.mk (Kd.C_below HR1.out hb)
          replace HP := Aside0.mk (Kd.C_below HP.out hb)
          replace HD := Aside0.mk (Kd.C_below HD.out hb)
          replace HE := Aside0.mk (Kd.C_below HE.out hb)
          replace HF := Aside0.mk (Kd.C_below HF.out hb)
          clear hb
          go_wp2_with fail
          refine (spec_WrongPlaces.calls K14 A4 n4 a A5 n5 b pl q5 _ HE.out HN4.out HF.out HN5.out HC14.out).mono ?_
          rintro e w26 ⟨va, rfl, hva, hb⟩
          obtain ⟨A7, n7, rfl, hn7, hC7⟩ := Kd.R_reads hva
          have HH := Aside0.mk hC7
          have HN7 := Aside0.mk hn7
          clear hva hC7 hn7
          replace HB := Aside0.mk (HB.out.trans (hb.mono HB.out.size))
          replace HR1 := Aside0.mk (Kd.C_below HR1.out hb)
          replace HP := Aside0.mk (Kd.C_below HP.out hb)
          replace HD := Aside0.mk (Kd.C_below HD.out hb)
          replace HE := Aside0.mk (Kd.C_below HE.out hb)
          replace HF := Aside0.mk (Kd.C_below HF.out hb)
          replace HG := Aside0.mk (Kd.C_below HG.out hb)
          clear hb
          go_wp2_with fail
          refine (sameI_c p HSM.out.2.2.1 HN2.out HN3.out _ HP.out HD.out).mono ?_
          rintro e w27 ⟨rfl, hb⟩
          replace HB := Aside0.mk (HB.out.trans (hb.mono HB.out.size))
          replace HR1 := Aside0.mk (Kd.C_below HR1.out hb)
          replace HP := Aside0.mk (Kd.C_below HP.out hb)
          replace HD := Aside0.mk (Kd.C_below HD.out hb)
          replace HE := Aside0.mk (Kd.C_below HE.out hb)
          replace HF := Aside0.mk (Kd.C_below HF.out hb)
          replace HG := Aside0.mk (Kd.C_below HG.out hb)
          replace HH := Aside0.mk (Kd.C_below HH.out hb)
          clear hb
          go_wp2_with fail
          refine (sameI_c pl HSM.out.2.2.2 HN6.out HN7.out _ HG.out HH.out).mono ?_
          rintro e w28 ⟨rfl, hb⟩
          replace HB := Aside0.mk (HB.out.trans (hb.mono HB.out.size))
          replace HR1 := Aside0.mk (Kd.C_below HR1.out hb)
          replace HP := Aside0.mk (Kd.C_below HP.out hb)
          replace HD := Aside0.mk (Kd.C_below HD.out hb)
          replace HE := Aside0.mk (Kd.C_below HE.out hb)
          replace HF := Aside0.mk (Kd.C_below HF.out hb)
          replace HG := Aside0.mk (Kd.C_below HG.out hb)
          replace HH := Aside0.mk (Kd.C_below HH.out hb)
          clear hb
          go_wp2
          go_ret
          exact ⟨rfl, HB.out⟩

end Go.Proofs.Ytldlldfoaicjcaa.Pure
