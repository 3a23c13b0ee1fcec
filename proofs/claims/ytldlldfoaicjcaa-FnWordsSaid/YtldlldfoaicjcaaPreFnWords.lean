/- Values and contracts that the law's own text builds on. No conditions beyond those typed. -/
import Derived.Test.YtldlldfoaicjcaaMFnWordsx13
import Derived.Test.YtldlldfoaicjcaaMFnWordsx0
import Derived.Test.YtldlldfoaicjcaaMFnWordsx1
import Derived.Test.YtldlldfoaicjcaaMFnWordsx2
import Derived.Test.YtldlldfoaicjcaaMFnWordsx3
import Derived.Test.YtldlldfoaicjcaaMFnWordsx4
import Derived.Test.YtldlldfoaicjcaaMFnWordsx5
import Derived.Test.YtldlldfoaicjcaaMFnWordsx6
import Derived.Test.YtldlldfoaicjcaaMFnWordsx7
import Derived.Test.YtldlldfoaicjcaaMFnWordsx8
import Derived.Test.YtldlldfoaicjcaaMFnWordsx9
import Derived.Test.YtldlldfoaicjcaaMFnWordsx10
import Derived.Test.YtldlldfoaicjcaaMFnWordsx11
import Derived.Test.YtldlldfoaicjcaaMFnWordsx12
import Derived.Test.YtldlldfoaicjcaaBit
import Derived.Test.YtldlldfoaicjcaaPoly
import Derived.Test.YtldlldfoaicjcaaMat
import Derived.Test.YtldlldfoaicjcaaLin
import Derived.Test.YtldlldfoaicjcaaRoot
import Derived.Test.YtldlldfoaicjcaaPev
import Derived.Test.YtldlldfoaicjcaaBm
import Derived.Test.YtldlldfoaicjcaaMx
import Derived.Test.YtldlldfoaicjcaaEnv
import Derived.Test.YtldlldfoaicjcaaEnc
import Derived.Test.YtldlldfoaicjcaaDec
import Derived.RegionTactic
import Derived.ChangeAlike
import Derived.BigRegion
import Derived.StillTailTactics
set_option linter.unusedVariables false
set_option linter.unusedSimpArgs false
namespace Go.Proofs.Ytldlldfoaicjcaa.Pure
open Go.RowKit Go.Proofs.Ytldlldfoaicjcaa Go.Proofs.Ytldlldfoaicjcaa.MFnWords Go.Proofs.YtldlldfoaicjcaaW.PrintWords Go.Proofs.YtldlldfoaicjcaaW.PrintLast Go.Proofs.Ytldlldfoaicjcaa.Bit

theorem impl_within_eq (a b c : Int) : impl_within.f a b c = some (decide (b ≤ a ∧ a ≤ c)) := by
 unfold impl_within.f
 by_cases h : a ≥ b
 ·rw [if_pos h]; congr 1; simp [show b ≤ a from h]
 ·rw [if_neg h]; congr 1; simp; omega

/-- Is a number an element? -/
def isB (a : Int) : Bool := decide (0 ≤ a ∧ a ≤ 255)
theorem rd_nat (l : List Int) (i : Nat) (h : i < l.length) : rd l (i : Int) = l[i] := by
 unfold rd
 simp [List.getD_eq_getElem?_getD, List.getElem?_eq_getElem h]
theorem wrap_succ (i : Nat) (h : i < 9223372036854775807) : wrap64 ((i : Int) + 1) = ((i + 1 : Nat) : Int) := by rw [wrap_id (by omega) (by omega)]; omega

theorem and_255 (x : Int) : 0 ≤ Go.bits .and .u64 x 255 ∧ Go.bits .and .u64 x 255 ≤ 255 := by
 have h : Go.bits .and .u64 x 255 = IntKind.u64.wrap ((BitVec.ofInt 64 x &&& BitVec.ofInt 64 255).toNat : Int) := rfl
 rw [h, BitVec.toNat_and]
 have h2 : (BitVec.ofInt 64 255).toNat = 255 := by decide
 rw [h2]
 have h3 : (BitVec.ofInt 64 x).toNat &&& 255 ≤ 255 := Nat.and_le_right
 rw [IntKind.wrap_u64]
 omega
theorem wrap_in {n : Int} (h0 : -1000000000000000 ≤ n) (h1 : n ≤ 1000000000000000) : wrap64 n = n := wrap_id (by omega) (by omega)
theorem tmod_in (x n : Int) (hx : 0 ≤ x) (hn : 0 < n) : 0 ≤ Int.tmod x n ∧ Int.tmod x n < n ∧ Int.tmod x n ≤ x := by
 obtain ⟨a, rfl⟩ := nat_of hx
 obtain ⟨b, rfl⟩ := nat_of (a := n) (by omega)
 have e : Int.tmod (a : Int) (b : Int) = ((a % b : Nat) : Int) := rfl
 rw [e]
 have := Nat.mod_lt a (show b > 0 by omega)
 have := Nat.mod_le a b
 omega
/-- The bytes that are drawn from. -/
def BY (s : List Int) : Prop := ∀ x ∈ s, 0 ≤ x ∧ x ≤ 255
theorem wf_BY {s : List Int} (h : ∀ x ∈ s, (Lit.int .u8 x).wf = true) : BY s := fun x hx => by
 have := h x hx
 simp only [Lit.wf, IntKind.min, IntKind.max, IntKind.signed, IntKind.bits, Bool.and_eq_true, decide_eq_true_eq] at this
 simp at this
 omega
theorem BY.rd {s : List Int} (h : BY s) (i : Int) : 0 ≤ rd s i ∧ rd s i ≤ 255 := by
 unfold Go.Proofs.YtldlldfoaicjcaaW.PrintWords.rd
 rw [List.getD_eq_getElem?_getD]
 cases e : s[i.toNat]? with
 | none => exact ⟨Int.le_refl _, (by decide : (0 : Int) ≤ 255)⟩
 | some v => exact h v (List.mem_of_getElem? e)

theorem laws_numberOf_ex {s : List Int} (hs : BY s) (hl : s.length ≤ 1048576) : ∃ n : Nat, Ev (fun k => laws_numberOf.f k s) (n : Int) ∧ n < 1000003 := by
 have h : ∀ d i m : Nat, i + d = s.length → m < 1000003 → ∃ n : Nat, Ev (fun k => laws_numberOf.l0 k (m : Int) s (s.length : Int) (i : Int)) (n : Int) ∧ n < 1000003 := by
  intro d
  induction d with
  | zero =>
   intro i m hi hm
   exact ⟨m, Ev.step (f := fun _ => some (m : Int)) (fun k => by simp only [laws_numberOf.l0]; rw [if_neg (by omega)]) (Ev.now _), hm⟩
  | succ d ih =>
   intro i m hi hm
   have hr := hs.rd (i : Int)
   have e1 : wrap64 (wrap64 (31 * (m : Int)) + wrap64 (rd s (i : Int))) = 31 * (m : Int) + rd s (i : Int) := by
    rw [wrap_in (n := 31 * (m : Int)) (by omega) (by omega), wrap_in (n := rd s (i : Int)) (by omega) (by omega), wrap_in (by omega) (by omega)]
   have ht := tmod_in (31 * (m : Int) + rd s (i : Int)) 1000003 (by omega) (by omega)
   obtain ⟨q, hq⟩ := nat_of ht.1
   obtain ⟨n, h1, h2⟩ := ih (i + 1) q (by omega) (by omega)
   refine ⟨n, Ev.step (f := fun k => laws_numberOf.l0 k (q : Int) s (s.length : Int) ((i + 1 : Nat) : Int)) (fun k => ?_) h1, h2⟩
   have ew : wrap64 ((i : Int) + 1) = ((i + 1 : Nat) : Int) := by rw [wrap_in (by omega) (by omega)]; omega
   simp only [laws_numberOf.l0, e1, hq, ew]
   rw [if_pos (by omega), if_pos (by omega), if_pos (by omega)]
 exact h s.length 0 0 (by omega) (by omega)

theorem laws_sameInts_same (l : List Int) (hl : l.length ≤ 1000000) : Ev (fun k => laws_sameInts.f k l l) true := by
 have h : ∀ d i : Nat, i + d = l.length → Ev (fun k => laws_sameInts.l0 k l l (l.length : Int) (i : Int)) true := by
  intro d
  induction d with
  | zero =>
   intro i hi
   exact Ev.step (f := fun _ => some true) (fun k => by rw [laws_sameInts.l0.eq_2, if_neg (by omega)]) (Ev.now _)
  | succ d ih =>
   intro i hi
   refine Ev.step (f := fun k => laws_sameInts.l0 k l l (l.length : Int) ((i + 1 : Nat) : Int)) (fun k => ?_) (ih (i + 1) (by omega))
   rw [laws_sameInts.l0.eq_2, if_pos (by omega), if_pos (by omega), if_pos (by omega), if_pos (by omega), if_pos rfl, wrap_succ i (by omega)]
 unfold laws_sameInts.f
 simp only [if_pos]
 exact h l.length 0 (by omega)

theorem rd_get (l : List Int) (i : Nat) (h : i < l.length) : rd l (i : Int) = l[i] := by
 unfold rd
 simp [List.getD_eq_getElem?_getD, List.getElem?_eq_getElem h]
theorem wrap_up (i : Nat) (h : i < 9223372036854775807) : wrap64 ((i : Int) + 1) = ((i + 1 : Nat) : Int) := by rw [wrap_id (by omega) (by omega)]; omega
theorem wrap_down (a : Nat) (h : a ≤ 9223372036854775807) : wrap64 ((a : Int) - 1) = (a : Int) - 1 := wrap_id (by omega) (by omega)
theorem allB_up {l : List Int} (h : l.all isB = true) : ∃ m : List Nat, l = Poly.up m ∧ Poly.AllB m := by
 refine Poly.up_of fun x hx => ?_
 have := List.all_eq_true.1 h x hx
 simpa [isB] using this
theorem up_allB {m : List Nat} (h : Poly.AllB m) : (Poly.up m).all isB = true := by
 rw [List.all_eq_true]
 intro x hx
 have := Poly.up_bytes h x hx
 simp only [isB, decide_eq_true_eq]; omega

theorem impl_areGf_eq (l : List Int) : impl_areGf.f l = some (l.all isB) := by
 unfold impl_areGf.f
 have e : impl_areGf.bad = fun n => !isB n := by
  funext n
  simp only [impl_areGf.bad, isB]
 rw [e, List.all_eq_not_any_not]

/-- What GeneratorOf answers. -/
def isW (a : Int) : Bool := decide (1 ≤ a ∧ a ≤ 3)
theorem isW_nat {a : Int} (h : isW a = true) : ∃ n : Nat, a = (n : Int) ∧ 1 ≤ n ∧ n ≤ 3 := by
 simp only [isW, decide_eq_true_eq] at h
 exact ⟨a.toNat, by omega, by omega, by omega⟩
theorem impl_isWrong_eq (a : Int) : impl_isWrong.f a = some (isW a) := by
 unfold impl_isWrong.f; rw [impl_within_eq]; rfl

/-- Is a list a polynomial? -/
def isP (l : List Int) : Bool := decide (l.length ≤ 40) && (l.all isB && (decide (l.length = 0) || (rd l ((l.length : Int) - 1) != 0)))
theorem isP_up {l : List Int} (h : isP l = true) : ∃ m : List Nat, l = Poly.up m ∧ Poly.AllB m ∧ m.length ≤ 40 ∧ (m = [] ∨ m.getD (m.length - 1) 0 ≠ 0) := by
 unfold isP at h
 simp only [Bool.and_eq_true, Bool.or_eq_true, decide_eq_true_eq, bne_iff_ne] at h
 obtain ⟨h1, h2, h3⟩ := h
 obtain ⟨m, rfl, hm⟩ := allB_up h2
 rw [Poly.up_length] at h1 h3
 refine ⟨m, rfl, hm, h1, ?_⟩
 rcases h3 with h3 | h3
 ·exact .inl (List.length_eq_zero_iff.1 h3)
 ·by_cases h0 : m.length = 0
  ·exact .inl (List.length_eq_zero_iff.1 h0)
  ·refine .inr fun e => h3 ?_
   have : (m.length : Int) - 1 = ((m.length - 1 : Nat) : Int) := by omega
   rw [this, Poly.rd_up, e]; rfl
theorem up_isP {m : List Nat} (hm : Poly.AllB m) (hl : m.length ≤ 40) (h : m = [] ∨ m.getD (m.length - 1) 0 ≠ 0) : isP (Poly.up m) = true := by
 unfold isP
 simp only [Bool.and_eq_true, Bool.or_eq_true, decide_eq_true_eq, bne_iff_ne, Poly.up_length]
 refine ⟨hl, up_allB hm, ?_⟩
 by_cases h0 : m.length = 0
 ·exact .inl h0
 ·refine .inr fun e => ?_
  have e1 : (m.length : Int) - 1 = ((m.length - 1 : Nat) : Int) := by omega
  rw [e1, Poly.rd_up] at e
  rcases h with h | h
  ·rw [h] at h0; exact h0 rfl
  ·exact h (by omega)

/-- Is a list a word? -/
def isLg (l : List Int) (w : Int) : Bool := isW w && (decide (2 * w < (l.length : Int) ∧ l.length ≤ 24) && l.all isB)
theorem isLg_up {l : List Int} {w : Int} (h : isLg l w = true) : ∃ (m : List Nat) (n : Nat), l = Poly.up m ∧ w = (n : Int) ∧ Poly.AllB m ∧ 1 ≤ n ∧ n ≤ 3 ∧ 2 * n < m.length ∧ m.length ≤ 24 := by
 unfold isLg at h
 simp only [Bool.and_eq_true, decide_eq_true_eq] at h
 obtain ⟨h1, ⟨h2, h3⟩, h4⟩ := h
 obtain ⟨n, rfl, hn1, hn3⟩ := isW_nat h1
 obtain ⟨m, rfl, hm⟩ := allB_up h4
 rw [Poly.up_length] at h2 h3
 exact ⟨m, n, rfl, rfl, hm, hn1, hn3, by omega, h3⟩

theorem impl_isLong_eq (l : List Int) (w : Int) : impl_isLong.f l w = some (isLg l w) := by
 unfold impl_isLong.f isLg
 simp only [impl_isWrong_eq, impl_areGf_eq, Option.bind_some]
 cases h1 : isW w
 ·rfl
 ·obtain ⟨n, rfl, h2, h3⟩ := isW_nat h1
  have e : wrap64 (2 * (n : Int)) = 2 * (n : Int) := wrap_id (by omega) (by omega)
  rw [e, if_pos rfl]
  by_cases h4 : 2 * (n : Int) < (l.length : Int)
  ·rw [if_pos (show (l.length : Int) > 2 * (n : Int) from h4)]
   by_cases h5 : l.length ≤ 24
   ·rw [if_pos (show (l.length : Int) ≤ 24 by omega), decide_eq_true (⟨h4, h5⟩ : 2 * (n : Int) < (l.length : Int) ∧ l.length ≤ 24)]; rfl
   ·rw [if_neg (show ¬ (l.length : Int) ≤ 24 by omega), decide_eq_false (fun h : 2 * (n : Int) < (l.length : Int) ∧ l.length ≤ 24 => h5 h.2)]; rfl
  ·rw [if_neg (show ¬ (l.length : Int) > 2 * (n : Int) from h4), decide_eq_false (fun h : 2 * (n : Int) < (l.length : Int) ∧ l.length ≤ 24 => h4 h.1)]; rfl

theorem impl_mul_l0 : ∀ (n a b o : Nat), a < 256 → o < 256 → b < 2 ^ n → b < 2 ^ 63 → Ev (fun k => impl_mul.l0 k (a : Int) (b : Int) (o : Int)) ((Gf.gmA n a b o : Nat) : Int) := by
 have stop : ∀ a o : Nat, Ev (fun k => impl_mul.l0 k (a : Int) ((0 : Nat) : Int) (o : Int)) ((o : Nat) : Int) := fun a o =>
  Ev.step (f := fun _ => some ((o : Nat) : Int)) (fun k => by simp only [impl_mul.l0]; rw [if_neg (by omega)]) (Ev.now _)
 intro n
 induction n with
 | zero =>
  intro a b o ha ho hb _
  obtain rfl : b = 0 := by simpa using hb
  exact stop a o
 | succ n ih =>
  intro a b o ha ho hb hb63
  by_cases h0 : b = 0
  ·subst h0
   rw [Gf.gmA_zero]
   exact stop a o
  ·have e1 : wrap64 ((a : Int) * 2) = ((a * 2 : Nat) : Int) := by rw [wrap_id (by omega) (by omega)]; omega
   have e2 : Go.bits .xor .i64 ((a * 2 : Nat) : Int) 285 = (((a * 2) ^^^ 285 : Nat) : Int) := xor_nat (a := a * 2) (b := 285) (by omega) (by decide)
   have e3 : Go.bits .xor .i64 (o : Int) (a : Int) = ((o ^^^ a : Nat) : Int) := xor_nat (by omega) (by omega)
   have e4 := and_one (a := b) hb63
   refine Ev.step (f := fun k => impl_mul.l0 k ((Gf.xt a : Nat) : Int) ((b / 2 : Nat) : Int) (((if b % 2 = 1 then o ^^^ a else o) : Nat) : Int)) (fun k => ?_) (ih _ _ _ (Gf.xt_lt a ha) ?_ (by rw [Nat.pow_succ] at hb; omega) (by omega))
   ·simp only [impl_mul.l0, e1, e2, e3, e4, half_nat, Gf.xt]
    rw [if_pos (show (b : Int) > 0 by omega)]
    by_cases h1 : b % 2 = 1 <;> by_cases h2 : 255 < a * 2
    ·rw [if_pos (show ((b % 2 : Nat) : Int) = 1 by omega), if_pos h1, if_pos (by omega), if_pos h2]
    ·rw [if_pos (show ((b % 2 : Nat) : Int) = 1 by omega), if_pos h1, if_neg (by omega), if_neg h2]
    ·rw [if_neg (show ¬ ((b % 2 : Nat) : Int) = 1 by omega), if_neg h1, if_pos (by omega), if_pos h2]
    ·rw [if_neg (show ¬ ((b % 2 : Nat) : Int) = 1 by omega), if_neg h1, if_neg (by omega), if_neg h2]
   ·split
    ·exact Gf.xor_byte ho ha
    ·exact ho
theorem impl_mul_ev (a b : Nat) (ha : a < 256) (hb : b < 256) : Ev (fun k => impl_mul.f k (a : Int) (b : Int)) ((Gf.gm a b : Nat) : Int) :=
 impl_mul_l0 8 a b 0 ha (by decide) hb (by omega)

theorem xor_up {a b : Nat} (ha : a < 256) (hb : b < 256) : Go.bits .xor .i64 (a : Int) (b : Int) = ((a ^^^ b : Nat) : Int) := xor_nat (by omega) (by omega)
theorem wrap_add (a b : Nat) (h : a + b ≤ 9223372036854775807) : wrap64 ((a : Int) + (b : Int)) = ((a + b : Nat) : Int) := by rw [wrap_id (by omega) (by omega)]; omega
theorem wrap_pred (a : Nat) (h : a ≤ 9223372036854775807) (h0 : 0 < a) : wrap64 ((a : Int) - 1) = ((a - 1 : Nat) : Int) := by rw [wrap_id (by omega) (by omega)]; omega

theorem impl_eval_l0 (p : List Nat) (x : Nat) (hp : Poly.AllB p) (hx : x < 256) (hl : p.length ≤ 100000) : ∀ i : Nat, i ≤ p.length → Ev (fun k => impl_eval.l0 k (Poly.up p) (x : Int) ((Poly.gev (p.drop i) x : Nat) : Int) ((i : Int) - 1)) ((Poly.gev p x : Nat) : Int) := by
 intro i
 induction i with
 | zero =>
  intro _
  exact Ev.step (f := fun _ => some ((Poly.gev p x : Nat) : Int)) (fun k => by simp only [impl_eval.l0]; rw [if_neg (by omega)]; rfl) (Ev.now _)
 | succ i ih =>
  intro hi
  have hlt : i < p.length := by omega
  have e1 : ((i + 1 : Nat) : Int) - 1 = (i : Int) := by omega
  have hd : p.drop i = p.getD i 0 :: p.drop (i + 1) := by
   rw [List.drop_eq_getElem_cons hlt]
   simp [List.getD_eq_getElem?_getD, List.getElem?_eq_getElem hlt]
  have hv := Poly.gev_lt (hp.drop (i + 1)) x
  have hg := hp.get i
  have ih' := ih (by omega)
  rw [hd] at ih'
  rw [e1]
  have ex := xor_up (Gf.gm_lt x hv) hg
  refine Ev.step (f := fun k => (impl_mul.f k ((Poly.gev (p.drop (i + 1)) x : Nat) : Int) (x : Int)).bind fun t => impl_eval.l0 k (Poly.up p) (x : Int) (Go.bits .xor .i64 t ((p.getD i 0 : Nat) : Int)) ((i : Int) - 1)) (fun k => ?_) ?_
  ·simp only [impl_eval.l0, Poly.rd_up, Poly.up_length, wrap_down i (by omega)]
   have z1 : (0 : Int) ≤ (i : Int) := by omega
   have z2 : (i : Int) < (p.length : Int) := by omega
   rw [if_pos (by omega)]
   simp only [if_pos z1, if_pos z2]
  ·refine Ev.bind (impl_mul_ev _ _ hv hx) ?_
   rw [ex]
   exact ih'
theorem impl_eval_ev (p : List Nat) (x : Nat) (hp : Poly.AllB p) (hx : x < 256) (hl : p.length ≤ 100000) : Ev (fun k => impl_eval.f k (Poly.up p) (x : Int)) ((Poly.gev p x : Nat) : Int) := by
 have := impl_eval_l0 p x hp hx hl p.length (Nat.le_refl _)
 rw [List.drop_length] at this
 unfold impl_eval.f
 rw [Poly.up_length, wrap_down p.length (by omega)]
 exact this

theorem impl_pow_l0 : ∀ (f a n o : Nat), a < 256 → o < 256 → n < 2 ^ f → n < 2 ^ 63 → Ev (fun k => impl_pow.l0 k (a : Int) (n : Int) (o : Int)) ((Gf.pwA f a n o : Nat) : Int) := by
 have stop : ∀ a o : Nat, Ev (fun k => impl_pow.l0 k (a : Int) ((0 : Nat) : Int) (o : Int)) ((o : Nat) : Int) := fun a o =>
  Ev.step (f := fun _ => some ((o : Nat) : Int)) (fun k => by simp only [impl_pow.l0]; rw [if_neg (by omega)]) (Ev.now _)
 have z : ∀ f a o, Gf.pwA f a 0 o = o := by
  intro f
  induction f with
  | zero => intro a o; rfl
  | succ f ih => intro a o; exact ih _ _
 intro f
 induction f with
 | zero =>
  intro a n o ha ho hn _
  obtain rfl : n = 0 := by simpa using hn
  exact stop a o
 | succ f ih =>
  intro a n o ha ho hn hn63
  by_cases h0 : n = 0
  ·subst h0
   rw [z]
   exact stop a o
  ·have e4 := and_one (a := n) hn63
   have hsq := Gf.gm_lt a ha
   by_cases h1 : n % 2 = 1
   ·refine Ev.step (f := fun k => (impl_mul.f k (o : Int) (a : Int)).bind fun t => (impl_mul.f k (a : Int) (a : Int)).bind fun u => impl_pow.l0 k u ((n / 2 : Nat) : Int) t) (fun k => ?_) ?_
    ·simp only [impl_pow.l0, e4, half_nat]
     rw [if_pos (show (n : Int) > 0 by omega), if_pos (show ((n % 2 : Nat) : Int) = 1 by omega)]
    ·have := ih (Gf.gm a a) (n / 2) (Gf.gm o a) hsq (Gf.gm_lt a ho) (by rw [Nat.pow_succ] at hn; omega) (by omega)
     show Ev _ ((Gf.pwA f (Gf.gm a a) (n / 2) (if n % 2 = 1 then Gf.gm o a else o) : Nat) : Int)
     rw [if_pos h1]
     exact Ev.bind (f := fun k t => (impl_mul.f k (a : Int) (a : Int)).bind fun u => impl_pow.l0 k u ((n / 2 : Nat) : Int) t) (impl_mul_ev o a ho ha) (Ev.bind (f := fun k u => impl_pow.l0 k u ((n / 2 : Nat) : Int) ((Gf.gm o a : Nat) : Int)) (impl_mul_ev a a ha ha) this)
   ·refine Ev.step (f := fun k => (impl_mul.f k (a : Int) (a : Int)).bind fun u => impl_pow.l0 k u ((n / 2 : Nat) : Int) (o : Int)) (fun k => ?_) ?_
    ·simp only [impl_pow.l0, e4, half_nat]
     rw [if_pos (show (n : Int) > 0 by omega), if_neg (show ¬ ((n % 2 : Nat) : Int) = 1 by omega)]
    ·have := ih (Gf.gm a a) (n / 2) o hsq ho (by rw [Nat.pow_succ] at hn; omega) (by omega)
     show Ev _ ((Gf.pwA f (Gf.gm a a) (n / 2) (if n % 2 = 1 then Gf.gm o a else o) : Nat) : Int)
     rw [if_neg h1]
     exact Ev.bind (f := fun k u => impl_pow.l0 k u ((n / 2 : Nat) : Int) (o : Int)) (impl_mul_ev a a ha ha) this
theorem impl_pow_ev (a n : Nat) (ha : a < 256) (hn : n < 2 ^ 62) : Ev (fun k => impl_pow.f k (a : Int) (n : Int)) ((Gf.pw a n : Nat) : Int) := by
 have := impl_pow_l0 62 a n 1 ha (by decide) hn (by omega)
 rw [Gf.pwA_eq 62 a n 1 ha (by decide) hn, Gf.one_gm _ (Gf.pw_lt n)] at this
 exact this

/-- The first n values at powers of 2. -/
def synL (m : List Nat) (n : Nat) : List Nat := (List.range n).map fun k => Poly.gev m (Gf.pw 2 k)
theorem synL_length (m : List Nat) (n : Nat) : (synL m n).length = n := by simp [synL]
theorem synL_succ (m : List Nat) (n : Nat) : synL m (n + 1) = synL m n ++ [Poly.gev m (Gf.pw 2 n)] := by simp [synL, List.range_succ]
theorem impl_syndromes_l0 (m : List Nat) (w : Nat) (hm : Poly.AllB m) (hl : m.length ≤ 1000) (hw : w ≤ 3) : ∀ d n : Nat, n + d = 2 * w → Ev (fun k => impl_syndromes.l0 k (Poly.up m) (Poly.up (synL m n)) ((2 * w : Nat) : Int) (n : Int)) (Poly.up (synL m (2 * w))) := by
 intro d
 induction d with
 | zero =>
  intro n hn
  obtain rfl : n = 2 * w := by omega
  exact Ev.step (f := fun _ => some (Poly.up (synL m (2 * w)))) (fun k => by simp only [impl_syndromes.l0]; rw [if_neg (by omega)]) (Ev.now _)
 | succ d ih =>
  intro n hn
  have z : (Poly.up (synL m n)).length < 17592186044416 := by rw [Poly.up_length, synL_length]; omega
  refine Ev.step (fun k => impl_syndromes.l0.eq_2 _ _ _ _ k) ?_
  have z1 : (n : Int) < ((2 * w : Nat) : Int) := by omega
  simp only [if_pos z1, if_pos z, wrap_up n (by omega)]
  refine Ev.bind (impl_pow_ev 2 n (by decide) (by omega)) ?_
  refine Ev.bind (impl_eval_ev m (Gf.pw 2 n) hm (Gf.pw_lt n) (by omega)) ?_
  rw [Poly.up_snoc, ← synL_succ]
  exact ih (n + 1) (by omega)
theorem impl_syndromes_ev (m : List Nat) (w : Nat) (hm : Poly.AllB m) (hl : m.length ≤ 1000) (hw : w ≤ 3) : Ev (fun k => impl_syndromes.f k (Poly.up m) (w : Int)) (Poly.up (synL m (2 * w))) := by
 have e2 : wrap64 (2 * (w : Int)) = ((2 * w : Nat) : Int) := by rw [wrap_id (by omega) (by omega)]; omega
 unfold impl_syndromes.f
 rw [e2]
 exact impl_syndromes_l0 m w hm hl hw (2 * w) 0 (by omega)

/-- Are all 0? -/
def zeroL (l : List Nat) : Bool := l.all (· == 0)

theorem mx_nat (a b : Nat) : mx (a : Int) (b : Int) = ((max a b : Nat) : Int) := by unfold mx; split <;> omega
theorem slices_Max_l0 (l : List Nat) (hl : l.length ≤ 1000) : ∀ d i v : Nat, i + d = l.length → Ev (fun k => slices_Max_int_int.l0 k (Poly.up l) (v : Int) (i : Int)) (((l.drop i).foldl max v : Nat) : Int) := by
 intro d
 induction d with
 | zero =>
  intro i v hi
  obtain rfl : i = l.length := by omega
  rw [List.drop_length]
  exact Ev.step (f := fun _ => some (v : Int)) (fun k => by simp only [slices_Max_int_int.l0, Poly.up_length]; rw [if_neg (by omega)]) (Ev.now _)
 | succ d ih =>
  intro i v hi
  have hlt : i < l.length := by omega
  have hd : l.drop i = l.getD i 0 :: l.drop (i + 1) := by
   rw [List.drop_eq_getElem_cons hlt]
   simp [List.getD_eq_getElem?_getD, List.getElem?_eq_getElem hlt]
  have z1 : (i : Int) < (l.length : Int) := by omega
  have z2 : (0 : Int) ≤ (i : Int) := by omega
  refine Ev.step (fun k => slices_Max_int_int.l0.eq_2 _ _ _ k) ?_
  simp only [Poly.rd_up, Poly.up_length, if_pos z1, if_pos z2, wrap_up i (by omega), mx_nat]
  rw [hd]
  exact ih (i + 1) _ (by omega)
theorem slices_Max_ev (l : List Nat) (hl : l.length ≤ 1000) (h0 : 0 < l.length) : Ev (fun k => slices_Max_int_int.f k (Poly.up l)) (((l.drop 1).foldl max (l.getD 0 0) : Nat) : Int) := by
 unfold slices_Max_int_int.f
 have z1 : ¬ (l.length : Int) < 1 := by omega
 have z2 : (0 : Int) < (l.length : Int) := by omega
 have e : rd (Poly.up l) 0 = ((l.getD 0 0 : Nat) : Int) := Poly.rd_up l 0
 simp only [Poly.up_length, if_neg z1, if_pos z2, e]
 exact slices_Max_l0 l hl (l.length - 1) 1 _ (by omega)
theorem max_zero : ∀ (l : List Nat) (v : Nat), (l.foldl max v = 0) ↔ (v = 0 ∧ ∀ x ∈ l, x = 0)
 | [], v => by simp
 | a :: l, v => by
  rw [List.foldl_cons, max_zero l]
  constructor
  ·rintro ⟨h1, h2⟩
   refine ⟨by omega, fun x hx => ?_⟩
   rcases List.mem_cons.1 hx with rfl | hx
   ·omega
   ·exact h2 x hx
  ·rintro ⟨h1, h2⟩
   have := h2 a List.mem_cons_self
   exact ⟨by omega, fun x hx => h2 x (List.mem_cons_of_mem _ hx)⟩
theorem max_zeroL (l : List Nat) (h : 0 < l.length) : ((((l.drop 1).foldl max (l.getD 0 0) : Nat) : Int) == 0) = zeroL l := by
 cases l with
 | nil => simp at h
 | cons a l =>
  have e : (((((a :: l).drop 1).foldl max ((a :: l).getD 0 0) : Nat) : Int) == 0) = decide ((l.foldl max a) = 0) := by
   show (((l.foldl max a : Nat) : Int) == 0) = _
   by_cases h0 : l.foldl max a = 0
   ·rw [h0]; rfl
   ·rw [decide_eq_false h0]
    exact beq_eq_false_iff_ne.2 (by omega)
  rw [e]
  unfold zeroL
  by_cases h0 : l.foldl max a = 0
  ·rw [decide_eq_true h0]
   symm
   rw [List.all_eq_true]
   have := (max_zero l a).1 h0
   intro x hx
   rcases List.mem_cons.1 hx with rfl | hx
   ·simp [this.1]
   ·simp [this.2 x hx]
  ·rw [decide_eq_false h0]
   symm
   rw [Bool.eq_false_iff]
   intro hall
   rw [List.all_eq_true] at hall
   refine h0 ((max_zero l a).2 ⟨by simpa using hall a List.mem_cons_self, fun x hx => by simpa using hall x (List.mem_cons_of_mem _ hx)⟩)

theorem impl_isRight_ev (m : List Nat) (w : Nat) (hm : Poly.AllB m) (hl : m.length ≤ 1000) (hw : w ≤ 3) (hw1 : 1 ≤ w) : Ev (fun k => impl_isRight.f k (Poly.up m) (w : Int)) (zeroL (synL m (2 * w))) := by
 unfold impl_isRight.f
 refine Ev.bind (impl_syndromes_ev m w hm hl hw) ?_
 refine Ev.bind (slices_Max_ev (synL m (2 * w)) (by rw [synL_length]; omega) (by rw [synL_length]; omega)) ?_
 rw [max_zeroL _ (by rw [synL_length]; omega)]
 exact Ev.now _

theorem toNat_up (m : List Nat) : (Poly.up m).map Int.toNat = m := by
 unfold Poly.up
 rw [List.map_map]
 conv => rhs; rw [← List.map_id m]
 exact List.map_congr_left fun x _ => by simp

/-- What IsWord answers. -/
def wordV (l : List Int) (w : Int) : Bool × Bool := if isLg l w then (zeroL (synL (l.map Int.toNat) (2 * w.toNat)), true) else (false, false)

theorem impl_IsWord_ev (l : List Int) (w : Int) : Ev (fun k => impl_IsWord.f k l w) (wordV l w) := by
 unfold impl_IsWord.f wordV
 simp only [impl_isLong_eq, Option.bind_some]
 cases h : isLg l w
 ·exact Ev.now _
 ·obtain ⟨m, n, rfl, rfl, hm, h1, h3, h4, h5⟩ := isLg_up h
  simp only [if_true, toNat_up, Int.toNat_natCast]
  exact Ev.bind (impl_isRight_ev m n hm (by omega) h3 h1) (Ev.now _)



theorem impl_inverse_ev (b : Nat) (hb : b < 256) : Ev (fun k => impl_inverse.f k (b : Int)) ((Gf.gi b : Nat) : Int) := by
 unfold impl_inverse.f
 exact Ev.bind (f := fun _ u => some u) (impl_pow_ev b 254 hb (by decide)) (Ev.now _)

theorem impl_trimmed_l0 (l : List Nat) (hl : l.length ≤ 1000000) : ∀ n, n ≤ l.length → Ev (fun k => impl_trimmed.l0 k (Poly.up l) (n : Int)) (Poly.up (Poly.trN l n)) := by
 intro n
 induction n with
 | zero =>
  intro _
  refine Ev.step (f := fun _ => some (Poly.up (Poly.trN l 0))) (fun k => ?_) (Ev.now _)
  simp only [impl_trimmed.l0, Poly.up_length]
  rw [if_neg (by omega), if_pos (by omega), if_pos (by omega)]
  rfl
 | succ n ih =>
  intro hn
  have hw : wrap64 (((n + 1 : Nat) : Int) - 1) = (n : Int) := by rw [wrap_pred _ (by omega) (by omega)]; rfl
  unfold Poly.trN
  by_cases h : l.getD n 0 = 0
  ·rw [if_pos h]
   refine Ev.step (f := fun k => impl_trimmed.l0 k (Poly.up l) (n : Int)) (fun k => ?_) (ih (by omega))
   simp only [impl_trimmed.l0, Poly.up_length, hw, Poly.rd_up, h]
   rw [if_pos (by omega), if_pos (by omega), if_pos (by omega), if_pos (by omega)]
  ·rw [if_neg h]
   refine Ev.step (f := fun _ => some (Poly.up (l.take (n + 1)))) (fun k => ?_) (Ev.now _)
   simp only [impl_trimmed.l0, Poly.up_length, hw, Poly.rd_up]
   rw [if_pos (by omega), if_pos (by omega), if_pos (by omega), if_neg (by omega), if_pos (by omega), if_pos (by omega), Int.toNat_natCast, Poly.up_take]
theorem impl_trimmed_ev (l : List Nat) (hl : l.length ≤ 1000000) : Ev (fun k => impl_trimmed.f k (Poly.up l)) (Poly.up (Poly.tr l)) := by
 have := impl_trimmed_l0 l hl l.length (Nat.le_refl _)
 unfold impl_trimmed.f
 rw [Poly.up_length]
 exact this

theorem wrap_sub (a b : Nat) (h : b ≤ a) (h2 : a ≤ 9223372036854775807) : wrap64 ((a : Int) - (b : Int)) = ((a - b : Nat) : Int) := by rw [wrap_id (by omega) (by omega)]; omega
theorem wrap_two (a : Nat) (h : a ≤ 1000000) : wrap64 (2 * (a : Int)) = ((2 * a : Nat) : Int) := by rw [wrap_id (by omega) (by omega)]; omega
theorem wrap_addn (a b : Nat) (h : a + b ≤ 9223372036854775807) : wrap64 ((a : Int) + (b : Int)) = ((a + b : Nat) : Int) := by rw [wrap_id (by omega) (by omega)]; omega
theorem drop_getD (l : List Nat) (i : Nat) (h : i < l.length) : l.drop i = l.getD i 0 :: l.drop (i + 1) := by
 rw [List.drop_eq_getElem_cons h]
 simp [List.getD_eq_getElem?_getD, List.getElem?_eq_getElem h]

/-- The steps of the reference's division: the quotient's list is as long as p. -/
def divS (p q : List Nat) : List Nat × List Nat := Poly.dvA q (Gf.gi (q.getD (q.length - 1) 0)) (p.length + 1 - q.length) (List.replicate p.length 0) p
/-- The steps of the program's division. -/
def divI (p q : List Nat) : List Nat × List Nat := Poly.dvA q (Gf.gi (q.getD (q.length - 1) 0)) (p.length + 1 - q.length) (List.replicate (p.length + 1 - q.length) 0) p
theorem dvA_more (q : List Nat) (inv m : Nat) : ∀ (i : Nat) (quo rest : List Nat), i ≤ quo.length → Poly.dvA q inv i (quo ++ List.replicate m 0) rest = ((Poly.dvA q inv i quo rest).1 ++ List.replicate m 0, (Poly.dvA q inv i quo rest).2)
 | 0, _, _, _ => rfl
 | i + 1, quo, rest, h => by
  unfold Poly.dvA
  rw [List.set_append_left _ _ (by omega)]
  exact dvA_more q inv m i _ _ (by rw [List.length_set]; omega)
theorem div_same (p q : List Nat) (hq : 0 < q.length) : Poly.tr (divS p q).1 = Poly.tr (divI p q).1 ∧ (divS p q).2 = (divI p q).2 := by
 have e : List.replicate p.length 0 = List.replicate (p.length + 1 - q.length) 0 ++ List.replicate (p.length - (p.length + 1 - q.length)) 0 := by
  rw [List.replicate_append_replicate]; congr 1; omega
 have h := dvA_more q (Gf.gi (q.getD (q.length - 1) 0)) (p.length - (p.length + 1 - q.length)) (p.length + 1 - q.length) (List.replicate (p.length + 1 - q.length) 0) p (by rw [List.length_replicate]; exact Nat.le_refl _)
 unfold divS divI
 rw [e, h]
 exact ⟨Poly.tr_zeros _ _, rfl⟩
/-- What DivPoly answers. -/
def divPV (l m : List Int) : List Int × List Int × Bool := if isP l && isP m && decide (0 < m.length) then (Poly.up (Poly.tr (divI (l.map Int.toNat) (m.map Int.toNat)).1), Poly.up (Poly.tr (divI (l.map Int.toNat) (m.map Int.toNat)).2), true) else ([], [], false)
theorem impl_divPoly_l (q : List Nat) (hq : Poly.AllB q) (hq0 : 0 < q.length) (hql : q.length ≤ 1000) (inv : Nat) (hinv : inv < 256) : ∀ (n : Nat) (quo rest : List Nat), Poly.AllB quo → Poly.AllB rest → n ≤ quo.length → n + q.length ≤ rest.length + 1 → quo.length ≤ 5000 → rest.length ≤ 5000 →
  Ev (fun r => impl_divPoly.l0 r (Poly.up q) (Poly.up rest) (Poly.up quo) (inv : Int) ((n : Int) - 1)) (Poly.up (Poly.tr (Poly.dvA q inv n quo rest).1), Poly.up (Poly.tr (Poly.dvA q inv n quo rest).2)) := by
 intro n
 induction n with
 | zero =>
  intro quo rest h1 h2 _ _ h5 h6
  have z : ¬ (((0 : Nat) : Int) - 1 ≥ 0) := by omega
  refine Ev.step (fun k => impl_divPoly.l0.eq_2 _ _ _ _ _ k) ?_
  simp only [if_neg z]
  exact Ev.bind (impl_trimmed_ev quo (by omega)) (Ev.bind (impl_trimmed_ev rest (by omega)) (Ev.now _))
 | succ n ih =>
  intro quo rest h1 h2 h3 h4 h5 h6
  have e0 : ((n + 1 : Nat) : Int) - 1 = (n : Int) := by omega
  have e1 : wrap64 (wrap64 ((n : Int) + (q.length : Int)) - 1) = ((n + q.length - 1 : Nat) : Int) := by rw [wrap_addn _ _ (by omega), wrap_id (by omega) (by omega)]; omega
  have z1 : (n : Int) ≥ 0 := by omega
  have z2 : (0 : Int) ≤ ((n + q.length - 1 : Nat) : Int) := by omega
  have z3 : ((n + q.length - 1 : Nat) : Int) < (rest.length : Int) := by omega
  have z4 : (0 : Int) ≤ (n : Int) := by omega
  have z5 : (n : Int) < (quo.length : Int) := by omega
  have hf := Gf.gm_lt inv (Pev.getD_lt h2 (n + q.length - 1))
  rw [e0]
  refine Ev.step (fun k => impl_divPoly.l0.eq_2 _ _ _ _ _ k) ?_
  simp only [Poly.up_length, Poly.rd_up, e1, if_pos z1, if_pos z2, if_pos z3, if_pos z4, if_pos z5, Int.toNat_natCast]
  refine Ev.bind (impl_mul_ev _ _ (Pev.getD_lt h2 (n + q.length - 1)) hinv) ?_
  unfold Poly.dvA
  generalize Gf.gm (rest.getD (n + q.length - 1) 0) inv = f at hf ⊢
  rw [Poly.up_set]
  have hqn : (quo.set n f).getD n 0 = f := by rw [Pev.getD_set _ _ _ _ (by omega), if_pos rfl]
  have inner : ∀ (d j : Nat) (out : List Nat), j + d = q.length → Poly.AllB out → out.length = rest.length → 
    Poly.mrow f (q.drop j) (n + j) out = Poly.mrow f q n rest → Ev (fun r => impl_divPoly.l1 r (Poly.up q) (Poly.up out) (Poly.up (quo.set n f)) (inv : Int) (n : Int) (Poly.up q) (q.length : Int) (j : Int)) (Poly.up (Poly.tr (Poly.dvA q inv n (quo.set n f) (Poly.mrow f q n rest)).1), Poly.up (Poly.tr (Poly.dvA q inv n (quo.set n f) (Poly.mrow f q n rest)).2)) := by
   intro d
   induction d with
   | zero =>
    intro j out hj ho hl he
    obtain rfl : j = q.length := by omega
    rw [List.drop_length] at he
    have he' : out = Poly.mrow f q n rest := he
    have z : ¬ ((q.length : Nat) : Int) < ((q.length : Nat) : Int) := by omega
    refine Ev.step (fun k => impl_divPoly.l1.eq_2 _ _ _ _ _ _ _ _ k) ?_
    simp only [if_neg z, wrap_down n (by omega)]
    rw [← he']
    exact ih (quo.set n f) out (Poly.AllB.set h1 n hf) ho (by rw [List.length_set]; omega) (by omega) (by rw [List.length_set]; omega) (by omega)
   | succ d ihd =>
    intro j out hj ho hl he
    have hjl : j < q.length := by omega
    have y1 : (j : Int) < (q.length : Int) := by omega
    have y2 : (0 : Int) ≤ (j : Int) := by omega
    have y3 : (0 : Int) ≤ ((n + j : Nat) : Int) := by omega
    have y4 : ((n + j : Nat) : Int) < (out.length : Int) := by omega
    have y5 : (n : Int) < ((quo.set n f).length : Int) := by rw [List.length_set]; omega
    refine Ev.step (fun k => impl_divPoly.l1.eq_2 _ _ _ _ _ _ _ _ k) ?_
    simp only [Poly.up_length, Poly.rd_up, if_pos y1, if_pos y2, wrap_addn n j (by omega), if_pos y3, if_pos y4, if_pos z4, if_pos y5, hqn, wrap_up j (by omega), Int.toNat_natCast]
    refine Ev.bind (impl_mul_ev f (q.getD j 0) hf (hq.get j)) ?_
    rw [xor_up (ho.get (n + j)) (Gf.gm_lt (q.getD j 0) hf), Poly.up_set]
    refine ihd (j + 1) (out.set (n + j) (out.getD (n + j) 0 ^^^ Gf.gm f (q.getD j 0))) (by omega) (ho.set _ (Gf.xor_byte (ho.get _) (Gf.gm_lt _ hf))) (by rw [List.length_set]; exact hl) ?_
    rw [← he, drop_getD q j hjl, show n + (j + 1) = n + j + 1 by omega]
    rfl
  exact inner q.length 0 rest (by omega) h2 rfl (by rw [List.drop_zero, Nat.add_zero])
theorem impl_divPoly_ev (p q : List Nat) (hp : Poly.AllB p) (hq : Poly.AllB q) (hq0 : 0 < q.length) (hpl : p.length ≤ 1000) (hql : q.length ≤ 1000) : Ev (fun r => impl_divPoly.f r (Poly.up p) (Poly.up q)) (Poly.up (Poly.tr (divI p q).1), Poly.up (Poly.tr (divI p q).2)) := by
 have e0 : mx 0 (wrap64 (wrap64 ((p.length : Int) - (q.length : Int)) + 1)) = ((p.length + 1 - q.length : Nat) : Int) := by
  rw [wrap_id (n := (p.length : Int) - (q.length : Int)) (by omega) (by omega), wrap_id (by omega) (by omega)]
  unfold mx
  split <;> omega
 have z1 : (0 : Int) ≤ ((p.length + 1 - q.length : Nat) : Int) := by omega
 have z2 : ((p.length + 1 - q.length : Nat) : Int).toNat ≤ 35184372088832 := by omega
 have e2 : wrap64 ((q.length : Int) - 1) = ((q.length - 1 : Nat) : Int) := by rw [wrap_id (by omega) (by omega)]; omega
 have z4 : (0 : Int) ≤ ((q.length - 1 : Nat) : Int) := by omega
 have z5 : ((q.length - 1 : Nat) : Int) < (q.length : Int) := by omega
 have hcl : slices_Clone_int_int.f (Poly.up p) = some (Poly.up p) := by
  unfold slices_Clone_int_int.f
  exact if_pos (by rw [Poly.up_length]; omega)
 have ht := Pev.getD_lt hq (q.length - 1)
 have e3 : wrap64 ((((p.length + 1 - q.length) : Nat) : Int) - 1) = (((p.length + 1 - q.length) : Nat) : Int) - 1 := wrap_id (by omega) (by omega)
 refine Ev.congr (f := fun r => (impl_inverse.f r ((q.getD (q.length - 1) 0 : Nat) : Int)).bind fun t => impl_divPoly.l0 r (Poly.up q) (Poly.up p) (Poly.up (List.replicate (p.length + 1 - q.length) 0)) t ((((p.length + 1 - q.length) : Nat) : Int) - 1)) (fun r => ?_) ?_
 ·unfold impl_divPoly.f
  rw [hcl, Option.bind_some, Poly.up_length, Poly.up_length, e0, if_pos z1, if_pos z2, Option.bind_some, e2, if_pos z4, if_pos z5, Poly.rd_up, Int.toNat_natCast, Poly.up_zeros, Poly.up_length, List.length_replicate, e3]
 ·refine Ev.bind (impl_inverse_ev _ ht) ?_
  by_cases h4 : q.length ≤ p.length + 1
  ·exact impl_divPoly_l q hq hq0 (by omega) _ (Gf.gi_lt _) (p.length + 1 - q.length) _ p (Poly.AllB.zeros _) hp (by rw [List.length_replicate]; exact Nat.le_refl _) (by omega) (by rw [List.length_replicate]; omega) (by omega)
  ·have e4 : p.length + 1 - q.length = 0 := by omega
   unfold divI
   rw [e4]
   have z6 : ¬ (((0 : Nat) : Int) - 1 ≥ 0) := by omega
   refine Ev.step (fun k => impl_divPoly.l0.eq_2 _ _ _ _ _ k) ?_
   simp only [if_neg z6]
   exact Ev.bind (impl_trimmed_ev _ (by rw [List.length_replicate]; omega)) (Ev.bind (impl_trimmed_ev p (by omega)) (Ev.now _))

theorem impl_mulPoly_l0 (p q : List Nat) (hp : Poly.AllB p) (hq : Poly.AllB q) (hpl : p.length ≤ 1000) (hql : q.length ≤ 1000) : ∀ (d i : Nat) (out : List Nat), i + d = p.length → out.length = p.length + q.length → Poly.AllB out →
  Ev (fun k => impl_mulPoly.l0 k (Poly.up q) (Poly.up out) (Poly.up p) (p.length : Int) (i : Int)) (Poly.up (Poly.tr (Poly.mpA q (p.drop i) i out))) := by
 intro d
 induction d with
 | zero =>
  intro i out hi hol hob
  obtain rfl : i = p.length := by omega
  rw [List.drop_length]
  refine Ev.step (f := fun k => (impl_trimmed.f k (Poly.up out)).bind fun t => some t) (fun k => ?_) (Ev.bind (f := fun _ t => some t) (impl_trimmed_ev out (by omega)) (Ev.now _))
  simp only [impl_mulPoly.l0]
  rw [if_neg (by omega)]
 | succ d ih =>
  intro i out hi hol hob
  have hlt : i < p.length := by omega
  have ha : p.getD i 0 < 256 := hp.get i
  have inner : ∀ (e j : Nat) (o : List Nat), j + e = q.length → o.length = p.length + q.length → Poly.AllB o →
    Ev (fun k => impl_mulPoly.l1 k (Poly.up q) (Poly.up o) (i : Int) ((p.getD i 0 : Nat) : Int) (Poly.up p) (p.length : Int) (i : Int) (Poly.up q) (q.length : Int) (j : Int)) (Poly.up (Poly.tr (Poly.mpA q (p.drop (i + 1)) (i + 1) (Poly.mrow (p.getD i 0) (q.drop j) (i + j) o)))) := by
   intro e
   induction e with
   | zero =>
    intro j o hj hol hob
    obtain rfl : j = q.length := by omega
    rw [List.drop_length]
    refine Ev.step (f := fun k => impl_mulPoly.l0 k (Poly.up q) (Poly.up o) (Poly.up p) (p.length : Int) ((i + 1 : Nat) : Int)) (fun k => ?_) (ih (i + 1) o (by omega) hol hob)
    simp only [impl_mulPoly.l1, wrap_succ i (by omega)]
    rw [if_neg (by omega)]
   | succ e ihe =>
    intro j o hj hol hob
    have hjl : j < q.length := by omega
    have hb : q.getD j 0 < 256 := hq.get j
    have hdrop : q.drop j = q.getD j 0 :: q.drop (j + 1) := by
     rw [List.drop_eq_getElem_cons hjl]
     simp [List.getD_eq_getElem?_getD, List.getElem?_eq_getElem hjl]
    rw [hdrop]
    unfold Poly.mrow
    have hx := xor_up (hob.get (i + j)) (Gf.gm_lt (q.getD j 0) ha)
    refine Ev.step (f := fun k => (impl_mul.f k ((p.getD i 0 : Nat) : Int) ((q.getD j 0 : Nat) : Int)).bind fun t => impl_mulPoly.l1 k (Poly.up q) ((Poly.up o).set (i + j) (Go.bits .xor .i64 ((o.getD (i + j) 0 : Nat) : Int) t)) (i : Int) ((p.getD i 0 : Nat) : Int) (Poly.up p) (p.length : Int) (i : Int) (Poly.up q) (q.length : Int) ((j + 1 : Nat) : Int)) (fun k => ?_) ?_
    ·simp only [impl_mulPoly.l1, wrap_add i j (by omega), wrap_succ j (by omega), Poly.rd_up, Poly.up_length, Int.toNat_natCast]
     rw [if_pos (by omega), if_pos (by omega), if_pos (by omega), if_pos (by omega), if_pos (by omega)]
    ·refine Ev.bind (f := fun k t => impl_mulPoly.l1 k (Poly.up q) ((Poly.up o).set (i + j) (Go.bits .xor .i64 ((o.getD (i + j) 0 : Nat) : Int) t)) (i : Int) ((p.getD i 0 : Nat) : Int) (Poly.up p) (p.length : Int) (i : Int) (Poly.up q) (q.length : Int) ((j + 1 : Nat) : Int)) (impl_mul_ev _ _ ha hb) ?_
     simp only [hx, Poly.up_set]
     have := ihe (j + 1) (o.set (i + j) (o.getD (i + j) 0 ^^^ Gf.gm (p.getD i 0) (q.getD j 0))) (by omega) (by rw [List.length_set]; exact hol) (hob.set _ (Gf.xor_byte (hob.get _) (Gf.gm_lt _ ha)))
     rw [show i + (j + 1) = i + j + 1 by omega] at this
     exact this
  have hdrop : p.drop i = p.getD i 0 :: p.drop (i + 1) := by
   rw [List.drop_eq_getElem_cons hlt]
   simp [List.getD_eq_getElem?_getD, List.getElem?_eq_getElem hlt]
  rw [hdrop]
  unfold Poly.mpA
  have := inner q.length 0 out (by omega) hol hob
  rw [List.drop_zero, Nat.add_zero] at this
  refine Ev.step (f := fun k => impl_mulPoly.l1 k (Poly.up q) (Poly.up out) (i : Int) ((p.getD i 0 : Nat) : Int) (Poly.up p) (p.length : Int) (i : Int) (Poly.up q) (q.length : Int) 0) (fun k => ?_) this
  simp only [impl_mulPoly.l0, Poly.rd_up, Poly.up_length]
  rw [if_pos (by omega), if_pos (by omega), if_pos (by omega)]
theorem impl_mulPoly_ev (p q : List Nat) (hp : Poly.AllB p) (hq : Poly.AllB q) (hpl : p.length ≤ 1000) (hql : q.length ≤ 1000) : Ev (fun k => impl_mulPoly.f k (Poly.up p) (Poly.up q)) (Poly.up (Poly.mulP p q)) := by
 unfold impl_mulPoly.f Poly.mulP
 have z1 : (0 : Int) ≤ ((p.length + q.length : Nat) : Int) := by omega
 have z2 : p.length + q.length ≤ 35184372088832 := by omega
 simp only [Poly.up_length, wrap_add p.length q.length (by omega), if_pos z1, Int.toNat_natCast, if_pos z2, Poly.up_zeros]
 exact impl_mulPoly_l0 p q hp hq hpl hql p.length 0 _ (by omega) (by simp) (Poly.AllB.zeros _)

theorem impl_generator_l0 (w : Nat) (hw : w ≤ 3) : ∀ (d k0 : Nat) (acc : List Nat), k0 + d = 2 * w → acc.length ≤ 900 - 2 * d → Poly.AllB acc → Ev (fun k => impl_generator.l0 k (Poly.up acc) ((2 * w : Nat) : Int) (k0 : Int)) (Poly.up (Poly.genA d k0 acc)) := by
 intro d
 induction d with
 | zero =>
  intro k0 acc hk _ _
  refine Ev.step (f := fun _ => some (Poly.up acc)) (fun k => ?_) (Ev.now _)
  simp only [impl_generator.l0]
  rw [if_neg (by omega)]
 | succ d ih =>
  intro k0 acc hk hl hb
  have hq : Poly.AllB [Gf.pw 2 k0, 1] := Poly.AllB.cons (Gf.pw_lt _) (Poly.AllB.cons (by decide) Poly.AllB.nil)
  have hml := Poly.mulP_length acc [Gf.pw 2 k0, 1]
  simp only [List.length_cons, List.length_nil] at hml
  refine Ev.step (f := fun k => (impl_pow.f k 2 (k0 : Int)).bind fun t => (impl_mulPoly.f k (Poly.up acc) [t, 1]).bind fun u => impl_generator.l0 k u ((2 * w : Nat) : Int) ((k0 + 1 : Nat) : Int)) (fun k => ?_) ?_
  ·simp only [impl_generator.l0, wrap_succ k0 (by omega)]
   rw [if_pos (by omega)]
  ·refine Ev.bind (f := fun k t => (impl_mulPoly.f k (Poly.up acc) [t, 1]).bind fun u => impl_generator.l0 k u ((2 * w : Nat) : Int) ((k0 + 1 : Nat) : Int)) (impl_pow_ev 2 k0 (by decide) (by omega)) ?_
   exact Ev.bind (f := fun k u => impl_generator.l0 k u ((2 * w : Nat) : Int) ((k0 + 1 : Nat) : Int)) (impl_mulPoly_ev acc [Gf.pw 2 k0, 1] hb hq (by omega) (by simp)) (ih (k0 + 1) _ (by omega) (by omega) (Poly.mulP_bytes _ hb))
theorem impl_generator_ev (w : Nat) (hw : w ≤ 3) : Ev (fun k => impl_generator.f k (w : Int)) (Poly.up (Poly.gen w)) := by
 have e2 : wrap64 (2 * (w : Int)) = ((2 * w : Nat) : Int) := by rw [wrap_id (by omega) (by omega)]; omega
 unfold impl_generator.f
 rw [e2]
 exact impl_generator_l0 w hw (2 * w) 0 [1] (by omega) (by simp; omega) (Poly.AllB.cons (by decide) Poly.AllB.nil)

/-- The places, counted from i on, at which two lists are unlike. -/
def difL : Nat → List Int → List Int → List Int
 | i, x :: a, y :: b => if x = y then difL (i + 1) a b else (i : Int) :: difL (i + 1) a b
 | _, _, _ => []
/-- What WrongPlaces answers. -/
def placesV (a b : List Int) : List Int × Bool := if a.length = b.length ∧ a.length ≤ 24 then (difL 0 a b, true) else ([], false)
theorem impl_WrongPlaces_l0 (a b : List Int) (hab : a.length = b.length) (ha : a.length ≤ 1048576) : ∀ (d i : Nat) (acc : List Int), i + d = a.length → acc.length ≤ i → Ev (fun k => impl_WrongPlaces.l0 k b acc a (a.length : Int) (i : Int)) (acc ++ difL i (a.drop i) (b.drop i), true) := by
 intro d
 induction d with
 | zero =>
  intro i acc hi _
  obtain rfl : i = a.length := by omega
  have e : acc ++ difL a.length (a.drop a.length) (b.drop a.length) = acc := by rw [List.drop_length]; simp [difL]
  rw [e]
  exact Ev.step (f := fun _ => some (acc, true)) (fun k => by simp only [impl_WrongPlaces.l0]; rw [if_neg (by omega)]) (Ev.now _)
 | succ d ih =>
  intro i acc hi hacc
  have hlt : i < a.length := by omega
  have hlt2 : i < b.length := by omega
  rw [List.drop_eq_getElem_cons hlt, List.drop_eq_getElem_cons hlt2]
  unfold difL
  by_cases e : a[i] = b[i]
  ·rw [if_pos e]
   refine Ev.step (f := fun k => impl_WrongPlaces.l0 k b acc a (a.length : Int) ((i + 1 : Nat) : Int)) (fun k => ?_) (ih (i + 1) acc (by omega) (by omega))
   simp only [impl_WrongPlaces.l0, rd_nat a i hlt, rd_nat b i hlt2, wrap_succ i (by omega)]
   rw [if_pos (by omega), if_pos (by omega), if_pos (by omega), if_pos (by omega), if_pos e]
  ·rw [if_neg e]
   have hi' := ih (i + 1) (acc ++ [(i : Int)]) (by omega) (by simp; omega)
   rw [List.append_assoc] at hi'
   refine Ev.step (f := fun k => impl_WrongPlaces.l0 k b (acc ++ [(i : Int)]) a (a.length : Int) ((i + 1 : Nat) : Int)) (fun k => ?_) hi'
   simp only [impl_WrongPlaces.l0, rd_nat a i hlt, rd_nat b i hlt2, wrap_succ i (by omega)]
   rw [if_pos (by omega), if_pos (by omega), if_pos (by omega), if_pos (by omega), if_neg e, if_pos (by omega)]
theorem impl_WrongPlaces_ev (a b : List Int) : Ev (fun k => impl_WrongPlaces.f k a b) (placesV a b) := by
 have no : Ev (fun k => impl_WrongPlaces.j0 k a b true) (([] : List Int), false) := Ev.step (f := fun _ => some (([] : List Int), false)) (fun k => by simp only [impl_WrongPlaces.j0]; rfl) (Ev.now _)
 unfold impl_WrongPlaces.f placesV
 by_cases h : a.length = b.length
 ·have z1 : (a.length : Int) = (b.length : Int) := by omega
  simp only [if_pos z1]
  by_cases h2 : a.length ≤ 24
  ·have z2 : decide ((a.length : Int) > 24) = false := decide_eq_false (by omega)
   rw [if_pos ⟨h, h2⟩, z2]
   have := impl_WrongPlaces_l0 a b h (by omega) a.length 0 [] (by omega) (by simp)
   exact Ev.step (f := fun k => impl_WrongPlaces.l0 k b [] a (a.length : Int) 0) (fun k => by simp only [impl_WrongPlaces.j0]; rfl) (by simpa using this)
  ·have z2 : decide ((a.length : Int) > 24) = true := decide_eq_true (by omega)
   rw [if_neg (fun x => h2 x.2), z2]
   exact no
 ·have z1 : ¬ (a.length : Int) = (b.length : Int) := by omega
  rw [if_neg (fun x => h x.1)]
  simp only [if_neg z1]
  exact no

theorem spec_l1Cut_l0 (l : List Nat) (hl : l.length ≤ 1000000) : ∀ n, n ≤ l.length → Ev (fun k => spec_l1Cut.l0 k (Poly.up (l.take n))) (Poly.up (Poly.trN l n)) := by
 intro n
 induction n with
 | zero =>
  intro _
  refine Ev.step (f := fun _ => some (Poly.up (Poly.trN l 0))) (fun k => ?_) (Ev.now _)
  simp only [spec_l1Cut.l0, List.take_zero, Poly.up_length, Option.bind_some]
  rw [if_neg (by simp), if_pos (by simp)]
  rfl
 | succ n ih =>
  intro hn
  have hlen : (Poly.up (l.take (n + 1))).length = n + 1 := by rw [Poly.up_length, List.length_take]; omega
  have hw : wrap64 (((n + 1 : Nat) : Int) - 1) = (n : Int) := by rw [wrap_pred _ (by omega) (by omega)]; rfl
  have hr : rd (Poly.up (l.take (n + 1))) (n : Int) = ((l.getD n 0 : Nat) : Int) := by
   rw [Poly.rd_up]
   simp only [List.getD_eq_getElem?_getD]
   rw [List.getElem?_take_of_lt (by omega)]
  unfold Poly.trN
  by_cases h : l.getD n 0 = 0
  ·rw [if_pos h]
   refine Ev.step (f := fun k => spec_l1Cut.l0 k (Poly.up (l.take n))) (fun k => ?_) (ih (by omega))
   simp only [spec_l1Cut.l0, hlen, hw, hr, h]
   rw [if_pos (by omega), if_pos (by omega), if_pos (by omega), if_pos (by omega), if_pos (by omega), Int.toNat_natCast, Poly.up_take, List.take_take, Nat.min_eq_left (by omega)]
  ·rw [if_neg h]
   refine Ev.step (f := fun _ => some (Poly.up (l.take (n + 1)))) (fun k => ?_) (Ev.now _)
   simp only [spec_l1Cut.l0, hlen, hw, hr, Option.bind_some]
   rw [if_pos (by omega), if_pos (by omega), if_pos (by omega), if_neg (by omega), if_pos (by simp; omega)]
   rfl
theorem spec_l1Cut_ev (l : List Nat) (hl : l.length ≤ 1000000) : Ev (fun k => spec_l1Cut.f k (Poly.up l)) (Poly.up (Poly.tr l)) := by
 have := spec_l1Cut_l0 l hl l.length (Nat.le_refl _)
 rw [List.take_length] at this
 exact this

theorem spec_l1Mul_l0 : ∀ (n a b o : Nat), a < 256 → o < 256 → b < 2 ^ n → b < 2 ^ 63 → Ev (fun k => spec_l1Mul.l0 k (a : Int) (b : Int) (o : Int)) ((Gf.gmA n a b o : Nat) : Int) := by
 have stop : ∀ a o : Nat, Ev (fun k => spec_l1Mul.l0 k (a : Int) ((0 : Nat) : Int) (o : Int)) ((o : Nat) : Int) := fun a o =>
  Ev.step (f := fun _ => some ((o : Nat) : Int)) (fun k => by simp only [spec_l1Mul.l0]; rw [if_neg (by omega)]) (Ev.now _)
 intro n
 induction n with
 | zero =>
  intro a b o ha ho hb _
  obtain rfl : b = 0 := by simpa using hb
  exact stop a o
 | succ n ih =>
  intro a b o ha ho hb hb63
  by_cases h0 : b = 0
  ·subst h0
   rw [Gf.gmA_zero]
   exact stop a o
  ·have e1 : wrap64 ((a : Int) * 2) = ((a * 2 : Nat) : Int) := by rw [wrap_id (by omega) (by omega)]; omega
   have e2 : Go.bits .xor .i64 ((a * 2 : Nat) : Int) 285 = (((a * 2) ^^^ 285 : Nat) : Int) := xor_nat (a := a * 2) (b := 285) (by omega) (by decide)
   have e3 : Go.bits .xor .i64 (o : Int) (a : Int) = ((o ^^^ a : Nat) : Int) := xor_nat (by omega) (by omega)
   have e4 := and_one (a := b) hb63
   refine Ev.step (f := fun k => spec_l1Mul.l0 k ((Gf.xt a : Nat) : Int) ((b / 2 : Nat) : Int) (((if b % 2 = 1 then o ^^^ a else o) : Nat) : Int)) (fun k => ?_) (ih _ _ _ (Gf.xt_lt a ha) ?_ (by rw [Nat.pow_succ] at hb; omega) (by omega))
   ·simp only [spec_l1Mul.l0, e1, e2, e3, e4, half_nat, Gf.xt]
    rw [if_pos (show (b : Int) > 0 by omega)]
    by_cases h1 : b % 2 = 1 <;> by_cases h2 : 255 < a * 2
    ·rw [if_pos (show ((b % 2 : Nat) : Int) = 1 by omega), if_pos h1, if_pos (by omega), if_pos h2]
    ·rw [if_pos (show ((b % 2 : Nat) : Int) = 1 by omega), if_pos h1, if_neg (by omega), if_neg h2]
    ·rw [if_neg (show ¬ ((b % 2 : Nat) : Int) = 1 by omega), if_neg h1, if_pos (by omega), if_pos h2]
    ·rw [if_neg (show ¬ ((b % 2 : Nat) : Int) = 1 by omega), if_neg h1, if_neg (by omega), if_neg h2]
   ·split
    ·exact Gf.xor_byte ho ha
    ·exact ho
theorem spec_l1Mul_ev (a b : Nat) (ha : a < 256) (hb : b < 256) : Ev (fun k => spec_l1Mul.f k (a : Int) (b : Int)) ((Gf.gm a b : Nat) : Int) :=
 spec_l1Mul_l0 8 a b 0 ha (by decide) hb (by omega)

theorem spec_l4Add_l1 (f m : Nat) (b : List Nat) (hf : f < 256) (hb : Poly.AllB b) (hm : m ≤ 1000) (hbl : b.length ≤ 1000) : ∀ (d j : Nat) (out : List Nat), j + d = b.length → Poly.AllB out → m + b.length ≤ out.length → out.length ≤ 5000 →
  Ev (fun r => spec_l4Add.l1 r (f : Int) (m : Int) (Poly.up out) (Poly.up b) (b.length : Int) (j : Int)) (Poly.up (Poly.mrow f (b.drop j) (m + j) out)) := by
 intro d
 induction d with
 | zero =>
  intro j out hj ho hl hl2
  obtain rfl : j = b.length := by omega
  rw [List.drop_length]
  exact Ev.step (f := fun _ => some (Poly.up out)) (fun k => by simp only [spec_l4Add.l1]; rw [if_neg (by omega)]) (Ev.now _)
 | succ d ih =>
  intro j out hj ho hl hl2
  have hjl : j < b.length := by omega
  have z1 : (j : Int) < (b.length : Int) := by omega
  have z2 : (0 : Int) ≤ (j : Int) := by omega
  have z3 : (0 : Int) ≤ ((j + m : Nat) : Int) := by omega
  have z4 : ((j + m : Nat) : Int) < (out.length : Int) := by omega
  have hx := xor_up (ho.get (j + m)) (Gf.gm_lt (b.getD j 0) hf)
  refine Ev.step (fun k => spec_l4Add.l1.eq_2 _ _ _ _ _ _ k) ?_
  simp only [Poly.rd_up, Poly.up_length, if_pos z1, if_pos z2, wrap_addn j m (by omega), if_pos z3, if_pos z4, wrap_up j (by omega), Int.toNat_natCast]
  refine Ev.bind (spec_l1Mul_ev f (b.getD j 0) hf (hb.get j)) ?_
  simp only [hx, Poly.up_set]
  rw [drop_getD b j hjl]
  unfold Poly.mrow
  rw [Nat.add_comm m j]
  have := ih (j + 1) (out.set (j + m) (out.getD (j + m) 0 ^^^ Gf.gm f (b.getD j 0))) (by omega) (ho.set _ (Gf.xor_byte (ho.get _) (Gf.gm_lt _ hf))) (by rw [List.length_set]; exact hl) (by rw [List.length_set]; exact hl2)
  rw [show m + (j + 1) = j + m + 1 by omega] at this
  exact this
theorem spec_l4Add_l0 (f m : Nat) (b c : List Nat) (hf : f < 256) (hb : Poly.AllB b) (hm : m ≤ 1000) (hbl : b.length ≤ 1000) (hc : Poly.AllB c) (hcl : c.length ≤ 1000) : ∀ (d n : Nat), n + d = m + b.length - c.length →
  Ev (fun r => spec_l4Add.l0 r (Poly.up b) (f : Int) (m : Int) (Poly.up (c ++ List.replicate n 0))) (Poly.up (Bm.upd c b f m)) := by
 intro d
 induction d with
 | zero =>
  intro n hn
  obtain rfl : n = m + b.length - c.length := by omega
  have hlen : (c ++ List.replicate (m + b.length - c.length) 0).length = c.length + (m + b.length - c.length) := by rw [List.length_append, List.length_replicate]
  have z : ¬ ((c ++ List.replicate (m + b.length - c.length) 0).length : Int) < ((b.length + m : Nat) : Int) := by omega
  refine Ev.step (fun k => spec_l4Add.l0.eq_2 _ _ _ _ k) ?_
  simp only [Poly.up_length, wrap_addn b.length m (by omega), if_neg z]
  have := spec_l4Add_l1 f m b hf hb hm hbl b.length 0 (c ++ List.replicate (m + b.length - c.length) 0) (by omega) (hc.append (Poly.AllB.zeros _)) (by omega) (by omega)
  rw [List.drop_zero, Nat.add_zero] at this
  exact this
 | succ d ih =>
  intro n hn
  have hlen : (c ++ List.replicate n 0).length = c.length + n := by rw [List.length_append, List.length_replicate]
  have z : ((c ++ List.replicate n 0).length : Int) < ((b.length + m : Nat) : Int) := by omega
  have z2 : (c ++ List.replicate n 0).length < 17592186044416 := by omega
  refine Ev.step (fun k => spec_l4Add.l0.eq_2 _ _ _ _ k) ?_
  simp only [Poly.up_length, wrap_addn b.length m (by omega), if_pos z, if_pos z2]
  have e : Poly.up (c ++ List.replicate n 0) ++ [0] = Poly.up (c ++ List.replicate (n + 1) 0) := by
   rw [show ([0] : List Int) = [((0 : Nat) : Int)] from rfl, Poly.up_snoc, List.append_assoc, List.replicate_succ']
  rw [e]
  exact ih (n + 1) (by omega)
theorem spec_l4Add_ev (f m : Nat) (b c : List Nat) (hf : f < 256) (hb : Poly.AllB b) (hm : m ≤ 1000) (hbl : b.length ≤ 1000) (hc : Poly.AllB c) (hcl : c.length ≤ 1000) : Ev (fun r => spec_l4Add.f r (Poly.up c) (Poly.up b) (f : Int) (m : Int)) (Poly.up (Bm.upd c b f m)) := by
 have z : (([] : List Int)).length + (Poly.up c).length < 17592186044416 := by rw [Poly.up_length]; simp; omega
 unfold spec_l4Add.f
 simp only [Option.bind_some, if_pos z, List.nil_append]
 have := spec_l4Add_l0 f m b c hf hb hm hbl hc hcl (m + b.length - c.length) 0 (by omega)
 rw [List.replicate_zero, List.append_nil] at this
 exact this

theorem spec_l1Pow_l0 : ∀ (f a n o : Nat), a < 256 → o < 256 → n < 2 ^ f → n < 2 ^ 63 → Ev (fun k => spec_l1Pow.l0 k (a : Int) (n : Int) (o : Int)) ((Gf.pwA f a n o : Nat) : Int) := by
 have stop : ∀ a o : Nat, Ev (fun k => spec_l1Pow.l0 k (a : Int) ((0 : Nat) : Int) (o : Int)) ((o : Nat) : Int) := fun a o =>
  Ev.step (f := fun _ => some ((o : Nat) : Int)) (fun k => by simp only [spec_l1Pow.l0]; rw [if_neg (by omega)]) (Ev.now _)
 have z : ∀ f a o, Gf.pwA f a 0 o = o := by
  intro f
  induction f with
  | zero => intro a o; rfl
  | succ f ih => intro a o; exact ih _ _
 intro f
 induction f with
 | zero =>
  intro a n o ha ho hn _
  obtain rfl : n = 0 := by simpa using hn
  exact stop a o
 | succ f ih =>
  intro a n o ha ho hn hn63
  by_cases h0 : n = 0
  ·subst h0
   rw [z]
   exact stop a o
  ·have e4 := and_one (a := n) hn63
   have hsq := Gf.gm_lt a ha
   by_cases h1 : n % 2 = 1
   ·refine Ev.step (f := fun k => (spec_l1Mul.f k (o : Int) (a : Int)).bind fun t => (spec_l1Mul.f k (a : Int) (a : Int)).bind fun u => spec_l1Pow.l0 k u ((n / 2 : Nat) : Int) t) (fun k => ?_) ?_
    ·simp only [spec_l1Pow.l0, e4, half_nat]
     rw [if_pos (show (n : Int) > 0 by omega), if_pos (show ((n % 2 : Nat) : Int) = 1 by omega)]
    ·have := ih (Gf.gm a a) (n / 2) (Gf.gm o a) hsq (Gf.gm_lt a ho) (by rw [Nat.pow_succ] at hn; omega) (by omega)
     show Ev _ ((Gf.pwA f (Gf.gm a a) (n / 2) (if n % 2 = 1 then Gf.gm o a else o) : Nat) : Int)
     rw [if_pos h1]
     exact Ev.bind (f := fun k t => (spec_l1Mul.f k (a : Int) (a : Int)).bind fun u => spec_l1Pow.l0 k u ((n / 2 : Nat) : Int) t) (spec_l1Mul_ev o a ho ha) (Ev.bind (f := fun k u => spec_l1Pow.l0 k u ((n / 2 : Nat) : Int) ((Gf.gm o a : Nat) : Int)) (spec_l1Mul_ev a a ha ha) this)
   ·refine Ev.step (f := fun k => (spec_l1Mul.f k (a : Int) (a : Int)).bind fun u => spec_l1Pow.l0 k u ((n / 2 : Nat) : Int) (o : Int)) (fun k => ?_) ?_
    ·simp only [spec_l1Pow.l0, e4, half_nat]
     rw [if_pos (show (n : Int) > 0 by omega), if_neg (show ¬ ((n % 2 : Nat) : Int) = 1 by omega)]
    ·have := ih (Gf.gm a a) (n / 2) o hsq ho (by rw [Nat.pow_succ] at hn; omega) (by omega)
     show Ev _ ((Gf.pwA f (Gf.gm a a) (n / 2) (if n % 2 = 1 then Gf.gm o a else o) : Nat) : Int)
     rw [if_neg h1]
     exact Ev.bind (f := fun k u => spec_l1Pow.l0 k u ((n / 2 : Nat) : Int) (o : Int)) (spec_l1Mul_ev a a ha ha) this
theorem spec_l1Pow_ev (a n : Nat) (ha : a < 256) (hn : n < 2 ^ 62) : Ev (fun k => spec_l1Pow.f k (a : Int) (n : Int)) ((Gf.pw a n : Nat) : Int) := by
 have := spec_l1Pow_l0 62 a n 1 ha (by decide) hn (by omega)
 rw [Gf.pwA_eq 62 a n 1 ha (by decide) hn, Gf.one_gm _ (Gf.pw_lt n)] at this
 exact this

theorem spec_l1Div_ev (a b : Nat) (ha : a < 256) (hb : b < 256) : Ev (fun k => spec_l1Div.f k (a : Int) (b : Int)) ((Gf.gm a (Gf.gi b) : Nat) : Int) := by
 unfold spec_l1Div.f
 refine Ev.bind (f := fun k t => (spec_l1Mul.f k (a : Int) t).bind fun u => some u) (spec_l1Pow_ev b 254 hb (by decide)) ?_
 exact Ev.bind (f := fun _ u => some u) (spec_l1Mul_ev a (Gf.gi b) ha (Gf.gi_lt b)) (Ev.now _)

/-- The loop over the terms of a discrepancy. -/
theorem spec_l4Locator_l1 (s : List Nat) (hs : Poly.AllB s) (hl : s.length ≤ 100) {k : Nat} (hk : k < s.length) {t : Bm.St} (h : Bm.Inv s k t) {R : List Int} (hj : Ev (fun r => spec_l4Locator.j2 r (Poly.up s) (Poly.up t.c) (Poly.up t.b) (t.long : Int) (t.m : Int) (t.last : Int) (k : Int) ((Bm.disc s t k : Nat) : Int) (s.length : Int) (k : Int)) R) :
  ∀ d i : Nat, i + d = min (t.long + 1) t.c.length → Ev (fun r => spec_l4Locator.l1 r (Poly.up s) (Poly.up t.c) (Poly.up t.b) (t.long : Int) (t.m : Int) (t.last : Int) (k : Int) ((Lin.xs i (fun i => Gf.gm (t.c.getD i 0) (s.getD (k - i) 0)) : Nat) : Int) (i : Int) (s.length : Int) (k : Int)) R := by
 have hlk := h.lk
 have hsz := h.sz
 intro d
 induction d with
 | zero =>
  intro i hi
  obtain rfl : i = min (t.long + 1) t.c.length := by omega
  refine Ev.step (fun k => spec_l4Locator.l1.eq_2 _ _ _ _ _ _ _ _ _ _ _ k) ?_
  by_cases h1 : min (t.long + 1) t.c.length ≤ t.long
  ·have z1 : ((min (t.long + 1) t.c.length : Nat) : Int) ≤ (t.long : Int) := by omega
   have z2 : ¬ ((min (t.long + 1) t.c.length : Nat) : Int) < (t.c.length : Int) := by omega
   simp only [Poly.up_length, if_pos z1, if_neg z2]
   exact hj
  ·have z1 : ¬ ((min (t.long + 1) t.c.length : Nat) : Int) ≤ (t.long : Int) := by omega
   simp only [if_neg z1]
   exact hj
 | succ d ih =>
  intro i hi
  have z1 : (i : Int) ≤ (t.long : Int) := by omega
  have z2 : (i : Int) < (t.c.length : Int) := by omega
  have z3 : (0 : Int) ≤ (i : Int) := by omega
  have z4 : (0 : Int) ≤ ((k - i : Nat) : Int) := by omega
  have z5 : ((k - i : Nat) : Int) < (s.length : Int) := by omega
  have hg := Pev.getD_lt h.cb i
  have hx : Lin.xs i (fun i => Gf.gm (t.c.getD i 0) (s.getD (k - i) 0)) < 256 := Lin.xs_lt fun j _ => Gf.gm_lt _ (Pev.getD_lt h.cb j)
  refine Ev.step (fun k => spec_l4Locator.l1.eq_2 _ _ _ _ _ _ _ _ _ _ _ k) ?_
  simp only [Poly.up_length, Poly.rd_up, if_pos z1, if_pos z2, if_pos z3, wrap_sub k i (by omega) (by omega), if_pos z4, if_pos z5, wrap_up i (by omega)]
  refine Ev.bind (spec_l1Mul_ev _ _ hg (hs.get (k - i))) ?_
  rw [xor_up hx (Gf.gm_lt _ hg)]
  exact ih (i + 1) (by omega)
theorem spec_l4Locator_l0 (s : List Nat) (hs : Poly.AllB s) (hl : s.length ≤ 100) : ∀ (d k : Nat) (t : Bm.St), k + d = s.length → Bm.Inv s k t →
  Ev (fun r => spec_l4Locator.l0 r (Poly.up s) (Poly.up t.c) (Poly.up t.b) (t.long : Int) (t.m : Int) (t.last : Int) (s.length : Int) (k : Int)) (Poly.up (Poly.tr (Bm.run s d k t).c)) := by
 intro d
 induction d with
 | zero =>
  intro k t hk h
  obtain rfl : k = s.length := by omega
  have hsz := h.sz
  have z : ¬ ((s.length : Nat) : Int) < ((s.length : Nat) : Int) := by omega
  refine Ev.step (fun k => spec_l4Locator.l0.eq_2 _ _ _ _ _ _ _ _ k) ?_
  simp only [if_neg z]
  exact Ev.bind (spec_l1Cut_ev t.c (by omega)) (Ev.now _)
 | succ d ih =>
  intro k t hk h
  have hlk := h.lk
  have hsz := h.sz
  have hmq := h.mq
  have hkl : k < s.length := by omega
  have z : (k : Int) < (s.length : Int) := by omega
  have ih' := ih (k + 1) (Bm.step s k t) (by omega) (Bm.inv_step hs h)
  have hd : Bm.disc s t k < 256 := Bm.disc_lt h.cb
  refine Ev.step (fun k => spec_l4Locator.l0.eq_2 _ _ _ _ _ _ _ _ k) ?_
  simp only [if_pos z]
  refine spec_l4Locator_l1 s hs hl hkl h ?_ (min (t.long + 1) t.c.length) 0 (by omega)
  refine Ev.step (fun k => spec_l4Locator.j2.eq_2 _ _ _ _ _ _ _ _ _ _ k) ?_
  show Ev _ (Poly.up (Poly.tr (Bm.run s d (k + 1) (Bm.step s k t)).c))
  unfold Bm.step at ih' ⊢
  by_cases e : Bm.disc s t k = 0
  ·have z2 : ((Bm.disc s t k : Nat) : Int) = 0 := by omega
   simp only [if_pos e] at ih' ⊢
   simp only [if_pos z2, wrap_up t.m (by omega), wrap_up k (by omega)]
   exact ih'
  ·have z2 : ¬ ((Bm.disc s t k : Nat) : Int) = 0 := by omega
   simp only [if_neg e] at ih' ⊢
   simp only [if_neg z2, wrap_up t.m (by omega), wrap_up k (by omega), wrap_two t.long (by omega)]
   refine Ev.bind (spec_l1Div_ev _ _ hd h.lb) ?_
   refine Ev.bind (spec_l4Add_ev _ t.m t.b t.c (Gf.gm_lt _ hd) h.bb (by omega) (by omega) h.cb (by omega)) ?_
   by_cases e2 : 2 * t.long ≤ k
   ·have z3 : ((2 * t.long : Nat) : Int) ≤ (k : Int) := by omega
    simp only [if_pos e2] at ih' ⊢
    simp only [if_pos z3, wrap_sub (k + 1) t.long (by omega) (by omega)]
    exact ih'
   ·have z3 : ¬ ((2 * t.long : Nat) : Int) ≤ (k : Int) := by omega
    simp only [if_neg e2] at ih' ⊢
    simp only [if_neg z3]
    exact ih'
theorem spec_l4Locator_ev (s : List Nat) (hs : Poly.AllB s) (hl : s.length ≤ 100) : Ev (fun r => spec_l4Locator.f r (Poly.up s)) (Poly.up (Bm.loc s)) := by
 have := spec_l4Locator_l0 s hs hl s.length 0 Bm.st0 (by omega) (Bm.inv0 s)
 unfold spec_l4Locator.f
 rw [Poly.up_length]
 exact this

theorem spec_l1In_eq (a b c : Int) : spec_l1In.f a b c = some (decide (b ≤ a ∧ a ≤ c)) := by
 unfold spec_l1In.f
 by_cases h : a ≥ b
 ·rw [if_pos h]; congr 1; simp [show b ≤ a from h]
 ·rw [if_neg h]; congr 1; simp; omega

theorem spec_l1Gf_eq (a : Int) : spec_l1Gf.f a = some (isB a) := by
 unfold spec_l1Gf.f; rw [spec_l1In_eq]; rfl

theorem spec_l1All_l0 (l : List Int) (hl : l.length ≤ 140737488351232) : ∀ d i : Nat, i + d = l.length → Ev (fun k => spec_l1All.l0 k l (l.length : Int) (i : Int)) ((l.drop i).all isB) := by
 intro d
 induction d with
 | zero =>
  intro i hi
  obtain rfl : i = l.length := by omega
  rw [List.drop_length]
  exact Ev.step (f := fun _ => some true) (fun k => by simp only [spec_l1All.l0]; rw [if_neg (by omega)]) (Ev.now _)
 | succ d ih =>
  intro i hi
  have hlt : i < l.length := by omega
  rw [List.drop_eq_getElem_cons hlt, List.all_cons]
  cases hb : isB l[i] with
  | true =>
   refine Ev.step (f := fun k => spec_l1All.l0 k l (l.length : Int) ((i + 1 : Nat) : Int)) (fun k => ?_) (ih (i + 1) (by omega))
   simp only [spec_l1All.l0, rd_get l i hlt, wrap_up i (by omega), spec_l1Gf_eq, hb, Option.bind_some, if_true]
   rw [if_pos (by omega), if_pos (by omega), if_pos (by omega)]
  | false =>
   refine Ev.step (f := fun _ => some false) (fun k => ?_) (Ev.now _)
   simp only [spec_l1All.l0, rd_get l i hlt, wrap_up i (by omega), spec_l1Gf_eq, hb, Option.bind_some]
   rw [if_pos (by omega), if_pos (by omega), if_pos (by omega)]; rfl
theorem spec_l1All_ev (l : List Int) (hl : l.length ≤ 140737488351232) : Ev (fun k => spec_l1All.f k l) (l.all isB) := spec_l1All_l0 l hl l.length 0 (by omega)

theorem spec_l4Wrong_eq (a : Int) : spec_l4Wrong.f a = some (isW a) := by
 unfold spec_l4Wrong.f; rw [spec_l1In_eq]; rfl

theorem spec_l4Word_ev (l : List Int) (w : Int) (hl : l.length ≤ 140737488351232) : Ev (fun k => spec_l4Word.f k l w) (isLg l w) := by
 unfold spec_l4Word.f isLg
 simp only [spec_l4Wrong_eq, spec_l1In_eq, Option.bind_some]
 cases h1 : isW w
 ·exact Ev.now _
 ·obtain ⟨n, rfl, h2, h3⟩ := isW_nat h1
  have e : wrap64 (wrap64 (2 * (n : Int)) + 1) = 2 * (n : Int) + 1 := by
   rw [wrap_id (n := 2 * (n : Int)) (by omega) (by omega), wrap_id (by omega) (by omega)]
  have e2 : decide (wrap64 (wrap64 (2 * (n : Int)) + 1) ≤ (l.length : Int) ∧ (l.length : Int) ≤ 24) = decide (2 * (n : Int) < (l.length : Int) ∧ l.length ≤ 24) := by
   rw [e]; exact decide_eq_decide.2 (by omega)
  simp only [if_true, e2, Bool.true_and]
  cases decide (2 * (n : Int) < (l.length : Int) ∧ l.length ≤ 24)
  ·exact Ev.now _
  ·simp only [if_true, Bool.true_and]
   exact Ev.bind (spec_l1All_ev l hl) (Ev.now _)

theorem spec_l1Eval_l0 (p : List Nat) (x : Nat) (hp : Poly.AllB p) (hx : x < 256) (hl : p.length ≤ 100000) : ∀ i : Nat, i ≤ p.length → Ev (fun k => spec_l1Eval.l0 k (Poly.up p) (x : Int) ((Poly.gev (p.drop i) x : Nat) : Int) ((i : Int) - 1)) ((Poly.gev p x : Nat) : Int) := by
 intro i
 induction i with
 | zero =>
  intro _
  exact Ev.step (f := fun _ => some ((Poly.gev p x : Nat) : Int)) (fun k => by simp only [spec_l1Eval.l0]; rw [if_neg (by omega)]; rfl) (Ev.now _)
 | succ i ih =>
  intro hi
  have hlt : i < p.length := by omega
  have e1 : ((i + 1 : Nat) : Int) - 1 = (i : Int) := by omega
  have hd : p.drop i = p.getD i 0 :: p.drop (i + 1) := by
   rw [List.drop_eq_getElem_cons hlt]
   simp [List.getD_eq_getElem?_getD, List.getElem?_eq_getElem hlt]
  have hv := Poly.gev_lt (hp.drop (i + 1)) x
  have hg := hp.get i
  have ih' := ih (by omega)
  rw [hd] at ih'
  rw [e1]
  have ex := xor_up (Gf.gm_lt x hv) hg
  refine Ev.step (f := fun k => (spec_l1Mul.f k ((Poly.gev (p.drop (i + 1)) x : Nat) : Int) (x : Int)).bind fun t => spec_l1Eval.l0 k (Poly.up p) (x : Int) (Go.bits .xor .i64 t ((p.getD i 0 : Nat) : Int)) ((i : Int) - 1)) (fun k => ?_) ?_
  ·simp only [spec_l1Eval.l0, Poly.rd_up, Poly.up_length, wrap_down i (by omega)]
   have z1 : (0 : Int) ≤ (i : Int) := by omega
   have z2 : (i : Int) < (p.length : Int) := by omega
   rw [if_pos (by omega)]
   simp only [if_pos z1, if_pos z2]
  ·refine Ev.bind (spec_l1Mul_ev _ _ hv hx) ?_
   rw [ex]
   exact ih'
theorem spec_l1Eval_ev (p : List Nat) (x : Nat) (hp : Poly.AllB p) (hx : x < 256) (hl : p.length ≤ 100000) : Ev (fun k => spec_l1Eval.f k (Poly.up p) (x : Int)) ((Poly.gev p x : Nat) : Int) := by
 have := spec_l1Eval_l0 p x hp hx hl p.length (Nat.le_refl _)
 rw [List.drop_length] at this
 unfold spec_l1Eval.f
 rw [Poly.up_length, wrap_down p.length (by omega)]
 exact this

theorem spec_l4Syndromes_l0 (m : List Nat) (w : Nat) (hm : Poly.AllB m) (hl : m.length ≤ 1000) (hw : w ≤ 3) : ∀ d n : Nat, n + d = 2 * w → Ev (fun k => spec_l4Syndromes.l0 k (Poly.up m) (w : Int) (Poly.up (synL m n)) (n : Int)) (Poly.up (synL m (2 * w))) := by
 have e2 : wrap64 (2 * (w : Int)) = ((2 * w : Nat) : Int) := by rw [wrap_id (by omega) (by omega)]; omega
 intro d
 induction d with
 | zero =>
  intro n hn
  obtain rfl : n = 2 * w := by omega
  exact Ev.step (f := fun _ => some (Poly.up (synL m (2 * w)))) (fun k => by simp only [spec_l4Syndromes.l0, e2]; rw [if_neg (by omega)]) (Ev.now _)
 | succ d ih =>
  intro n hn
  have z : (Poly.up (synL m n)).length < 17592186044416 := by rw [Poly.up_length, synL_length]; omega
  refine Ev.step (fun k => spec_l4Syndromes.l0.eq_2 _ _ _ _ k) ?_
  have z1 : (n : Int) < ((2 * w : Nat) : Int) := by omega
  simp only [e2, if_pos z1, if_pos z, wrap_up n (by omega)]
  refine Ev.bind (spec_l1Pow_ev 2 n (by decide) (by omega)) ?_
  refine Ev.bind (spec_l1Eval_ev m (Gf.pw 2 n) hm (Gf.pw_lt n) (by omega)) ?_
  rw [Poly.up_snoc, ← synL_succ]
  exact ih (n + 1) (by omega)
theorem spec_l4Syndromes_ev (m : List Nat) (w : Nat) (hm : Poly.AllB m) (hl : m.length ≤ 1000) (hw : w ≤ 3) : Ev (fun k => spec_l4Syndromes.f k (Poly.up m) (w : Int)) (Poly.up (synL m (2 * w))) := spec_l4Syndromes_l0 m w hm hl hw (2 * w) 0 (by omega)

theorem spec_l4Is_l0 (l : List Nat) (hl : l.length ≤ 1000) : ∀ d i : Nat, i + d = l.length → Ev (fun k => spec_l4Is.l0 k (Poly.up l) (l.length : Int) (i : Int)) (zeroL (l.drop i)) := by
 intro d
 induction d with
 | zero =>
  intro i hi
  obtain rfl : i = l.length := by omega
  rw [List.drop_length]
  exact Ev.step (f := fun _ => some true) (fun k => by simp only [spec_l4Is.l0]; rw [if_neg (by omega)]) (Ev.now _)
 | succ d ih =>
  intro i hi
  have hlt : i < l.length := by omega
  have hd : l.drop i = l.getD i 0 :: l.drop (i + 1) := by
   rw [List.drop_eq_getElem_cons hlt]
   simp [List.getD_eq_getElem?_getD, List.getElem?_eq_getElem hlt]
  have z1 : (i : Int) < (l.length : Int) := by omega
  have z2 : (0 : Int) ≤ (i : Int) := by omega
  refine Ev.step (fun k => spec_l4Is.l0.eq_2 _ _ _ k) ?_
  simp only [Poly.rd_up, Poly.up_length, if_pos z1, if_pos z2, wrap_up i (by omega)]
  rw [hd]
  show Ev _ ((l.getD i 0 == 0) && zeroL (l.drop (i + 1)))
  by_cases h0 : l.getD i 0 = 0
  ·have z3 : ((l.getD i 0 : Nat) : Int) = 0 := by omega
   simp only [if_pos z3, h0, beq_self_eq_true, Bool.true_and]
   exact ih (i + 1) (by omega)
  ·have z3 : ¬ ((l.getD i 0 : Nat) : Int) = 0 := by omega
   simp only [if_neg z3, beq_eq_false_iff_ne.2 h0, Bool.false_and]
   exact Ev.now _
theorem spec_l4Is_ev (m : List Nat) (w : Nat) (hm : Poly.AllB m) (hl : m.length ≤ 1000) (hw : w ≤ 3) : Ev (fun k => spec_l4Is.f k (Poly.up m) (w : Int)) (zeroL (synL m (2 * w))) := by
 unfold spec_l4Is.f
 refine Ev.bind (spec_l4Syndromes_ev m w hm hl hw) ?_
 rw [Poly.up_length]
 exact spec_l4Is_l0 (synL m (2 * w)) (by rw [synL_length]; omega) (synL m (2 * w)).length 0 (by omega)

theorem spec_l4Unlike_l0 (a b : List Int) (hab : a.length = b.length) (ha : a.length ≤ 1048576) : ∀ (d i : Nat) (acc : List Int), i + d = a.length → acc.length ≤ i → Ev (fun k => spec_l4Unlike.l0 k a b acc (a.length : Int) (i : Int)) (acc ++ difL i (a.drop i) (b.drop i)) := by
 intro d
 induction d with
 | zero =>
  intro i acc hi _
  obtain rfl : i = a.length := by omega
  have e : acc ++ difL a.length (a.drop a.length) (b.drop a.length) = acc := by rw [List.drop_length]; simp [difL]
  rw [e]
  exact Ev.step (f := fun _ => some acc) (fun k => by simp only [spec_l4Unlike.l0]; rw [if_neg (by omega)]) (Ev.now _)
 | succ d ih =>
  intro i acc hi hacc
  have hlt : i < a.length := by omega
  have hlt2 : i < b.length := by omega
  rw [List.drop_eq_getElem_cons hlt, List.drop_eq_getElem_cons hlt2]
  unfold difL
  by_cases e : a[i] = b[i]
  ·rw [if_pos e]
   refine Ev.step (f := fun k => spec_l4Unlike.l0 k a b acc (a.length : Int) ((i + 1 : Nat) : Int)) (fun k => ?_) (ih (i + 1) acc (by omega) (by omega))
   simp only [spec_l4Unlike.l0, rd_nat a i hlt, rd_nat b i hlt2, wrap_succ i (by omega)]
   rw [if_pos (by omega), if_pos (by omega), if_pos (by omega), if_pos (by omega), if_pos e]
  ·rw [if_neg e]
   have hi' := ih (i + 1) (acc ++ [(i : Int)]) (by omega) (by simp; omega)
   rw [List.append_assoc] at hi'
   refine Ev.step (f := fun k => spec_l4Unlike.l0 k a b (acc ++ [(i : Int)]) (a.length : Int) ((i + 1 : Nat) : Int)) (fun k => ?_) hi'
   simp only [spec_l4Unlike.l0, rd_nat a i hlt, rd_nat b i hlt2, wrap_succ i (by omega)]
   rw [if_pos (by omega), if_pos (by omega), if_pos (by omega), if_pos (by omega), if_neg e, if_pos (by omega)]
theorem spec_l4Unlike_ev (a b : List Int) (hab : a.length = b.length) (ha : a.length ≤ 1048576) : Ev (fun k => spec_l4Unlike.f k a b) (difL 0 a b) := by
 have := spec_l4Unlike_l0 a b hab ha a.length 0 [] (by omega) (by simp)
 simp only [List.nil_append, List.drop_zero] at this
 exact this

theorem synL_syl (m : List Nat) (n : Nat) : synL m n = Enc.syl m n := List.map_congr_left fun k _ => Pev.gev_pe m _
theorem zeroL_zer (l : List Nat) : zeroL l = Enc.zer l := rfl
theorem up_isLg {m : List Nat} {n : Nat} (hm : Poly.AllB m) (h1 : 1 ≤ n) (h3 : n ≤ 3) (h4 : 2 * n < m.length) (h5 : m.length ≤ 24) : isLg (Poly.up m) (n : Int) = true := by
 unfold isLg isW
 rw [up_allB hm, Poly.up_length, decide_eq_true (by omega), decide_eq_true (by omega)]; rfl

theorem plc_succ (c : List Nat) (i : Nat) : Dec.plc c (i + 1) = Dec.plc c i ++ (if Root.pe c (Gf.gi (Gf.pw 2 i)) = 0 then [i] else []) := by
 unfold Dec.plc
 rw [List.range_succ, List.filter_append]
 congr 1
 by_cases h : Root.pe c (Gf.gi (Gf.pw 2 i)) = 0
 ·rw [if_pos h, List.filter_cons, if_pos (by simpa using h)]; rfl
 ·rw [if_neg h, List.filter_cons, if_neg (by simpa using h)]; rfl
theorem spec_l4Places_l0 (c : List Nat) (n : Nat) (hc : Poly.AllB c) (hl : c.length ≤ 1000) (hn : n ≤ 1000) : ∀ d i : Nat, i + d = n → Ev (fun k => spec_l4Places.l0 k (Poly.up c) (n : Int) (Poly.up (Dec.plc c i)) (i : Int)) (Poly.up (Dec.plc c n)) := by
 intro d
 induction d with
 | zero =>
  intro i hi
  obtain rfl : i = n := by omega
  exact Ev.step (f := fun _ => some (Poly.up (Dec.plc c i))) (fun k => by rw [spec_l4Places.l0.eq_2, if_neg (by omega)]) (Ev.now _)
 | succ d ih =>
  intro i hi
  have hpl := Dec.plc_length c i
  refine Ev.step (f := fun k => (spec_l1Pow.f k 2 (i : Int)).bind fun t => (spec_l1Div.f k 1 t).bind fun u => (spec_l1Eval.f k (Poly.up c) u).bind fun v => if v = 0 then (if (Poly.up (Dec.plc c i)).length < 17592186044416 then spec_l4Places.l0 k (Poly.up c) (n : Int) (Poly.up (Dec.plc c i) ++ [(i : Int)]) ((i + 1 : Nat) : Int) else none) else spec_l4Places.l0 k (Poly.up c) (n : Int) (Poly.up (Dec.plc c i)) ((i + 1 : Nat) : Int)) (fun k => by rw [spec_l4Places.l0.eq_2, if_pos (by omega), wrap_succ i (by omega)]) ?_
  refine Ev.bind (spec_l1Pow_ev 2 i (by decide) (by omega)) ?_
  refine Ev.bind (spec_l1Div_ev 1 (Gf.pw 2 i) (by decide) (Gf.pw_lt i)) ?_
  simp only [Gf.one_gm _ (Gf.gi_lt _)]
  refine Ev.bind (spec_l1Eval_ev c (Gf.gi (Gf.pw 2 i)) hc (Gf.gi_lt _) (by omega)) ?_
  have ih' := ih (i + 1) (by omega)
  rw [plc_succ] at ih'
  rw [Pev.gev_pe]
  by_cases h : Root.pe c (Gf.gi (Gf.pw 2 i)) = 0
  ·have h0 : ((Root.pe c (Gf.gi (Gf.pw 2 i)) : Nat) : Int) = 0 := by omega
   have h1 : (Poly.up (Dec.plc c i)).length < 17592186044416 := by rw [Poly.up_length]; omega
   rw [if_pos h] at ih'
   simp only [if_pos h0, if_pos h1, Poly.up_snoc]
   exact ih'
  ·have h0 : ¬ ((Root.pe c (Gf.gi (Gf.pw 2 i)) : Nat) : Int) = 0 := by omega
   rw [if_neg h, List.append_nil] at ih'
   simp only [if_neg h0]
   exact ih'
theorem spec_l4Places_ev (c : List Nat) (n : Nat) (hc : Poly.AllB c) (hl : c.length ≤ 1000) (hn : n ≤ 1000) : Ev (fun k => spec_l4Places.f k (Poly.up c) (n : Int)) (Poly.up (Dec.plc c n)) := spec_l4Places_l0 c n hc hl hn n 0 (by omega)

theorem rdL_nat (l : List (List Int)) (i : Nat) (h : i < l.length) : rd_L2 l (i : Int) = l[i] := by
 unfold rd_L2
 simp [List.getD_eq_getElem?_getD, List.getElem?_eq_getElem h]

/-- Lists of rows of natural numbers as Go's. -/
def upM (m : List (List Nat)) : List (List Int) := m.map Poly.up
def dnM (m : List (List Int)) : List (List Nat) := m.map fun r => r.map Int.toNat
theorem upM_length (m : List (List Nat)) : (upM m).length = m.length := by simp [upM]
theorem upM_snoc (m : List (List Nat)) (r : List Nat) : upM m ++ [Poly.up r] = upM (m ++ [r]) := by simp [upM]
theorem upM_set (m : List (List Nat)) (i : Nat) (r : List Nat) : (upM m).set i (Poly.up r) = upM (m.set i r) := by simp [upM, List.map_set]
theorem upM_getD (m : List (List Nat)) (i : Nat) : (upM m).getD i [] = Poly.up (m.getD i []) := by
 unfold upM
 rw [List.getD_eq_getElem?_getD, List.getElem?_map, List.getD_eq_getElem?_getD]
 cases m[i]? <;> rfl
theorem rdL_up (m : List (List Nat)) (i : Nat) : rd_L2 (upM m) (i : Int) = Poly.up (m.getD i []) := by
 unfold rd_L2
 rw [Int.toNat_natCast]
 exact upM_getD m i
theorem dn_up (l : List Nat) : (Poly.up l).map Int.toNat = l := by
 unfold Poly.up
 rw [List.map_map]
 exact (List.map_congr_left (fun x _ => Int.toNat_natCast x)).trans (List.map_id' l)
theorem dnM_upM (m : List (List Nat)) : dnM (upM m) = m := by
 unfold dnM upM
 rw [List.map_map]
 exact (List.map_congr_left (fun x _ => dn_up x)).trans (List.map_id' m)
/-- Rows of c elements. -/
def areR (c : Nat) (m : List (List Int)) : Bool := m.all fun r => decide (r.length = c) && r.all isB
theorem areR_up {c : Nat} : ∀ {m : List (List Int)}, areR c m = true → ∃ n, m = upM n ∧ Mat.MB' c n
 | [], _ => ⟨[], rfl, fun r hr => by cases hr⟩
 | r :: m, h => by
  simp only [areR, List.all_cons, Bool.and_eq_true, decide_eq_true_eq] at h
  obtain ⟨n, rfl, hn⟩ := areR_up (m := m) (by simpa [areR] using h.2)
  obtain ⟨q, rfl, hq⟩ := allB_up h.1.2
  refine ⟨q :: n, rfl, fun x hx => ?_⟩
  rcases List.mem_cons.1 hx with rfl | hx
  ·exact ⟨by simpa [Poly.up_length] using h.1.1, hq⟩
  ·exact hn x hx
theorem up_areR {c : Nat} {n : List (List Nat)} (h : Mat.MB' c n) : areR c (upM n) = true := by
 unfold areR upM
 rw [List.all_eq_true]
 intro x hx
 obtain ⟨r, hr, rfl⟩ := List.mem_map.1 hx
 rw [Bool.and_eq_true, decide_eq_true_eq, Poly.up_length]
 exact ⟨(h r hr).1, up_allB (h r hr).2⟩
def goodM (m : List (List Int)) : Bool := decide (1 ≤ m.length ∧ m.length ≤ 8) && (decide (1 ≤ (m.getD 0 []).length ∧ (m.getD 0 []).length ≤ 8) && areR (m.getD 0 []).length m)
theorem goodM_up {m : List (List Int)} (h : goodM m = true) : ∃ c n, m = upM n ∧ Mat.MB' c n ∧ (m.getD 0 []).length = c ∧ m.length = n.length ∧ 1 ≤ n.length ∧ n.length ≤ 8 ∧ 1 ≤ c ∧ c ≤ 8 := by
 simp only [goodM, Bool.and_eq_true, decide_eq_true_eq] at h
 obtain ⟨n, hn, hB⟩ := areR_up h.2.2
 exact ⟨_, n, hn, hB, rfl, by rw [hn, upM_length], by rw [← upM_length, ← hn]; exact h.1.1, by rw [← upM_length, ← hn]; exact h.1.2, h.2.1.1, h.2.1.2⟩
theorem up_goodM {c : Nat} {n : List (List Nat)} (h : Mat.MB' c n) (h1 : 1 ≤ n.length) (h2 : n.length ≤ 8) (h3 : 1 ≤ c) (h4 : c ≤ 8) : goodM (upM n) = true := by
 have e : ((upM n).getD 0 []).length = c := by rw [upM_getD, Poly.up_length]; exact (h.get (by omega)).1
 unfold goodM
 rw [e, up_areR h, upM_length, decide_eq_true (by omega), decide_eq_true (by omega)]; rfl
theorem upM_small {c k : Nat} {n : List (List Nat)} (h : Mat.MB' c n) (hl : n.length ≤ k) (hc : c ≤ k) : (upM n).length ≤ k ∧ ∀ r ∈ upM n, r.length ≤ k := by
 refine ⟨by rw [upM_length]; exact hl, fun r hr => ?_⟩
 obtain ⟨q, hq, rfl⟩ := List.mem_map.1 hr
 rw [Poly.up_length, (h q hq).1]; exact hc

theorem spec_GoodMatrix_l0 (m : List (List Int)) (hl : m.length ≤ 140737488351232) (hr : ∀ r ∈ m, r.length ≤ 140737488351232) : ∀ d i : Nat, i + d = m.length →
  Ev (fun k => spec_GoodMatrix.l0 k m m (m.length : Int) (i : Int)) (decide (1 ≤ m.length ∧ m.length ≤ 8) && (decide (1 ≤ (m.getD 0 []).length ∧ (m.getD 0 []).length ≤ 8) && areR (m.getD 0 []).length (m.drop i))) := by
 intro d
 induction d with
 | zero =>
  intro i hi
  obtain rfl : i = m.length := by omega
  have e0 : areR (m.getD 0 []).length (m.drop m.length) = true := by rw [List.drop_length]; rfl
  rw [e0, Bool.and_true]
  have hz : rd_L2 m 0 = m.getD 0 [] := rfl
  by_cases h1 : 1 ≤ m.length ∧ m.length ≤ 8
  ·refine Ev.step (f := fun _ => some (decide (1 ≤ m.length ∧ m.length ≤ 8) && decide (1 ≤ (m.getD 0 []).length ∧ (m.getD 0 []).length ≤ 8))) (fun k => ?_) (Ev.now _)
   rw [spec_GoodMatrix.l0.eq_2, if_neg (by omega), spec_l1In_eq, Option.bind_some, decide_eq_true (by omega), if_pos rfl, if_pos (by omega), spec_l1In_eq, hz, decide_eq_true h1, Bool.true_and]
   exact congrArg some (decide_eq_decide.2 (by omega))
  ·refine Ev.step (f := fun _ => some (decide (1 ≤ m.length ∧ m.length ≤ 8) && decide (1 ≤ (m.getD 0 []).length ∧ (m.getD 0 []).length ≤ 8))) (fun k => ?_) (Ev.now _)
   rw [spec_GoodMatrix.l0.eq_2, if_neg (by omega), spec_l1In_eq, Option.bind_some, decide_eq_false (by omega), if_neg (by decide), decide_eq_false h1, Bool.false_and]
 | succ d ih =>
  intro i hi
  have hlt : i < m.length := by omega
  have hz : rd_L2 m 0 = m.getD 0 [] := rfl
  have eR : areR (m.getD 0 []).length (m.drop i) = (decide (m[i].length = (m.getD 0 []).length) && m[i].all isB && areR (m.getD 0 []).length (m.drop (i + 1))) := by
   rw [List.drop_eq_getElem_cons hlt]; rfl
  rw [eR]
  have E := spec_l1All_ev m[i] (hr _ (List.getElem_mem hlt))
  by_cases h1 : m[i].length = (m.getD 0 []).length
  ·refine Ev.step (f := fun k => (spec_l1All.f k m[i]).bind fun t => if t = true then spec_GoodMatrix.l0 k m m (m.length : Int) ((i + 1 : Nat) : Int) else some false) (fun k => ?_) (Ev.bind (f := fun k t => if t = true then spec_GoodMatrix.l0 k m m (m.length : Int) ((i + 1 : Nat) : Int) else some false) E ?_)
   ·rw [spec_GoodMatrix.l0.eq_2, if_pos (by omega), if_pos (by omega), if_pos (by omega), if_pos (by omega), rdL_nat m i hlt, hz, if_pos (by omega), wrap_succ i (by omega)]
   ·rw [decide_eq_true h1, Bool.true_and]
    cases m[i].all isB
    ·rw [Bool.false_and, Bool.and_false, Bool.and_false]
     exact Ev.now _
    ·rw [Bool.true_and]
     simp only [if_true]
     exact ih (i + 1) (by omega)
  ·rw [decide_eq_false h1, Bool.false_and, Bool.false_and, Bool.and_false, Bool.and_false]
   refine Ev.step (f := fun _ => some false) (fun k => ?_) (Ev.now _)
   rw [spec_GoodMatrix.l0.eq_2, if_pos (by omega), if_pos (by omega), if_pos (by omega), if_pos (by omega), rdL_nat m i hlt, hz, if_neg (by omega)]
theorem spec_GoodMatrix_ev (m : List (List Int)) (hl : m.length ≤ 140737488351232) (hr : ∀ r ∈ m, r.length ≤ 140737488351232) : Ev (fun k => spec_GoodMatrix.f k m) (goodM m) := spec_GoodMatrix_l0 m hl hr m.length 0 (by omega)

theorem spec_l2Own_l0 (m : List (List Int)) (hm : m.length ≤ 1048576) (hr : ∀ r ∈ m, r.length ≤ 1048576) : ∀ (d i : Nat), i + d = m.length → Ev (fun k => spec_l2Own.l0 k (m.take i) m (m.length : Int) (i : Int)) m := by
 intro d
 induction d with
 | zero =>
  intro i hi
  obtain rfl : i = m.length := by omega
  rw [List.take_length]
  exact Ev.step (f := fun _ => some m) (fun k => by rw [spec_l2Own.l0.eq_2, if_neg (by omega)]) (Ev.now _)
 | succ d ih =>
  intro i hi
  have hlt : i < m.length := by omega
  have h1 := hr _ (List.getElem_mem hlt)
  have e : m.take i ++ [m[i]] = m.take (i + 1) := by rw [List.take_succ_eq_append_getElem hlt]
  refine Ev.step (f := fun k => spec_l2Own.l0 k (m.take (i + 1)) m (m.length : Int) ((i + 1 : Nat) : Int)) (fun k => ?_) (ih (i + 1) (by omega))
  rw [spec_l2Own.l0.eq_2, if_pos (by omega), if_pos (by omega), if_pos (by omega), Option.bind_some, rdL_nat m i hlt, List.nil_append, if_pos (by simp only [List.length_nil]; omega), if_pos (by rw [List.length_take]; omega), e, wrap_succ i (by omega)]
theorem spec_l2Own_ev (m : List (List Int)) (hm : m.length ≤ 1048576) (hr : ∀ r ∈ m, r.length ≤ 1048576) : Ev (fun k => spec_l2Own.f k m) m := spec_l2Own_l0 m hm hr m.length 0 (by omega)

/-- The first i rows of the unit matrix of n columns. -/
def idR (n i : Nat) : List Int := (List.replicate n (0 : Int)).set i 1
def idL (n i : Nat) : List (List Int) := (List.range i).map (idR n)
theorem idL_length (n i : Nat) : (idL n i).length = i := by simp [idL]
theorem idL_succ (n i : Nat) : idL n (i + 1) = idL n i ++ [idR n i] := by simp [idL, List.range_succ]
theorem spec_l2Identity_l0 (n : Nat) (hn : n ≤ 1000) : ∀ d i : Nat, i + d = n → Ev (fun k => spec_l2Identity.l0 k (n : Int) (idL n i) (i : Int)) (idL n n) := by
 intro d
 induction d with
 | zero =>
  intro i hi
  obtain rfl : i = n := by omega
  exact Ev.step (f := fun _ => some (idL i i)) (fun k => by rw [spec_l2Identity.l0.eq_2, if_neg (by omega)]) (Ev.now _)
 | succ d ih =>
  intro i hi
  refine Ev.step (f := fun k => spec_l2Identity.l0 k (n : Int) (idL n (i + 1)) ((i + 1 : Nat) : Int)) (fun k => ?_) (ih (i + 1) (by omega))
  rw [spec_l2Identity.l0.eq_2, if_pos (by omega), if_pos (by omega), if_pos (by omega)]
  simp only [Option.bind_some, Int.toNat_natCast]
  rw [if_pos (by omega), if_pos (by rw [List.length_replicate]; omega), if_pos (by rw [idL_length]; omega), wrap_succ i (by omega), idL_succ]
  rfl
theorem spec_l2Identity_ev (n : Nat) (hn : n ≤ 1000) : Ev (fun k => spec_l2Identity.f k (n : Int)) (idL n n) := spec_l2Identity_l0 n hn n 0 (by omega)

theorem dotL_take : ∀ (fs v : List Nat) (j : Nat), fs.length = v.length → j < fs.length → Mat.dotL (fs.take (j + 1)) (v.take (j + 1)) = Mat.dotL (fs.take j) (v.take j) ^^^ Gf.gm (fs.getD j 0) (v.getD j 0)
 | [], _, _, _, h => by cases h
 | _ :: _, [], _, h, _ => by cases h
 | f :: fs, x :: v, 0, _, _ => by simp [Mat.dotL]
 | f :: fs, x :: v, j + 1, h, hj => by
  have ih := dotL_take fs v j (by simpa using h) (by simpa using hj)
  simp only [List.take_succ_cons, Mat.dotL, List.getD_cons_succ] at ih ⊢
  rw [ih, Nat.xor_assoc]
theorem dotL_take_lt (fs v : List Nat) (h : Poly.AllB fs) (j : Nat) : Mat.dotL (fs.take j) (v.take j) < 256 := Mat.dotL_lt _ _ (fun x hx => h x (List.mem_of_mem_take hx))
theorem colM_snoc (m : List (List Nat)) (v : List Nat) {i : Nat} (hi : i < m.length) : Poly.up (Mat.colM (m.take i) v) ++ [((Mat.dotL (m.getD i []) v : Nat) : Int)] = Poly.up (Mat.colM (m.take (i + 1)) v) := by
 unfold Mat.colM Poly.up
 rw [List.take_succ_eq_append_getElem hi, List.map_append, List.map_append, List.getD_eq_getElem?_getD, List.getElem?_eq_getElem hi]; rfl

theorem spec_l2Column_l1 (n : Nat) (m : List (List Nat)) (v : List Nat) (hm : Mat.MB' n m) (hv : Poly.AllB v) (hvl : v.length = n) (hn : n ≤ 1000) (hml : m.length ≤ 1000) (i : Nat) (hi : i < m.length) (hnext : Ev (fun k => spec_l2Column.l0 k (Poly.up v) (Poly.up (Mat.colM (m.take (i + 1)) v)) (upM m) ((upM m).length : Int) ((i + 1 : Nat) : Int)) (Poly.up (Mat.colM m v))) :
  ∀ d j : Nat, j + d = n → Ev (fun k => spec_l2Column.l1 k (Poly.up v) (Poly.up (Mat.colM (m.take i) v)) ((Mat.dotL ((m.getD i []).take j) (v.take j) : Nat) : Int) (upM m) ((upM m).length : Int) (i : Int) (Poly.up (m.getD i [])) ((Poly.up (m.getD i [])).length : Int) (j : Int)) (Poly.up (Mat.colM m v)) := by
 obtain ⟨hr, hrb⟩ := hm.get hi
 intro d
 induction d with
 | zero =>
  intro j hj
  obtain rfl : j = n := by omega
  refine Ev.step (f := fun k => spec_l2Column.l0 k (Poly.up v) (Poly.up (Mat.colM (m.take (i + 1)) v)) (upM m) ((upM m).length : Int) ((i + 1 : Nat) : Int)) (fun k => ?_) hnext
  rw [spec_l2Column.l1.eq_2, if_neg (by rw [Poly.up_length]; omega), if_pos (by rw [Poly.up_length]; unfold Mat.colM; rw [List.length_map, List.length_take]; omega), show (m.getD i []).take j = m.getD i [] from by rw [← hr, List.take_length], show v.take j = v from by rw [← hvl, List.take_length], colM_snoc m v hi, wrap_succ i (by omega)]
 | succ d ih =>
  intro j hj
  have hjr : j < (m.getD i []).length := by omega
  have hx := xor_up (dotL_take_lt (m.getD i []) v hrb j) (Gf.gm_lt (v.getD j 0) (Poly.AllB.get hrb j))
  refine Ev.step (f := fun k => (spec_l1Mul.f k (((m.getD i []).getD j 0 : Nat) : Int) ((v.getD j 0 : Nat) : Int)).bind fun t => spec_l2Column.l1 k (Poly.up v) (Poly.up (Mat.colM (m.take i) v)) (Go.bits .xor .i64 ((Mat.dotL ((m.getD i []).take j) (v.take j) : Nat) : Int) t) (upM m) ((upM m).length : Int) (i : Int) (Poly.up (m.getD i [])) ((Poly.up (m.getD i [])).length : Int) ((j + 1 : Nat) : Int)) (fun k => ?_) ?_
  ·rw [spec_l2Column.l1.eq_2, if_pos (by rw [Poly.up_length]; omega), if_pos (by omega), if_pos (by rw [Poly.up_length]; omega), if_pos (by rw [Poly.up_length]; omega), Poly.rd_up, Poly.rd_up, wrap_succ j (by omega)]
  ·refine Ev.bind (f := fun k t => spec_l2Column.l1 k (Poly.up v) (Poly.up (Mat.colM (m.take i) v)) (Go.bits .xor .i64 ((Mat.dotL ((m.getD i []).take j) (v.take j) : Nat) : Int) t) (upM m) ((upM m).length : Int) (i : Int) (Poly.up (m.getD i [])) ((Poly.up (m.getD i [])).length : Int) ((j + 1 : Nat) : Int)) (spec_l1Mul_ev _ _ (Poly.AllB.get hrb j) (Poly.AllB.get hv j)) ?_
   have h9 := ih (j + 1) (by omega)
   rw [dotL_take _ _ j (by omega) hjr] at h9
   show Ev (fun k => spec_l2Column.l1 k (Poly.up v) (Poly.up (Mat.colM (m.take i) v)) (Go.bits .xor .i64 ((Mat.dotL ((m.getD i []).take j) (v.take j) : Nat) : Int) ((Gf.gm ((m.getD i []).getD j 0) (v.getD j 0) : Nat) : Int)) (upM m) ((upM m).length : Int) (i : Int) (Poly.up (m.getD i [])) ((Poly.up (m.getD i [])).length : Int) ((j + 1 : Nat) : Int)) _
   rw [hx]
   exact h9
theorem spec_l2Column_l0 (n : Nat) (m : List (List Nat)) (v : List Nat) (hm : Mat.MB' n m) (hv : Poly.AllB v) (hvl : v.length = n) (hn : n ≤ 1000) (hml : m.length ≤ 1000) : ∀ d i : Nat, i + d = m.length → Ev (fun k => spec_l2Column.l0 k (Poly.up v) (Poly.up (Mat.colM (m.take i) v)) (upM m) ((upM m).length : Int) (i : Int)) (Poly.up (Mat.colM m v)) := by
 intro d
 induction d with
 | zero =>
  intro i hi
  obtain rfl : i = m.length := by omega
  rw [List.take_length]
  exact Ev.step (f := fun _ => some (Poly.up (Mat.colM m v))) (fun k => by rw [spec_l2Column.l0.eq_2, if_neg (by rw [upM_length]; omega)]) (Ev.now _)
 | succ d ih =>
  intro i hi
  have h9 := spec_l2Column_l1 n m v hm hv hvl hn hml i (by omega) (ih (i + 1) (by omega)) n 0 (by omega)
  refine Ev.step (f := fun k => spec_l2Column.l1 k (Poly.up v) (Poly.up (Mat.colM (m.take i) v)) 0 (upM m) ((upM m).length : Int) (i : Int) (Poly.up (m.getD i [])) ((Poly.up (m.getD i [])).length : Int) 0) (fun k => ?_) h9
  rw [spec_l2Column.l0.eq_2, if_pos (by rw [upM_length]; omega), if_pos (by omega), if_pos (by rw [upM_length]; omega), rdL_up]
theorem spec_l2Column_ev (n : Nat) (m : List (List Nat)) (v : List Nat) (hm : Mat.MB' n m) (hv : Poly.AllB v) (hvl : v.length = n) (hn : n ≤ 1000) (hml : m.length ≤ 1000) : Ev (fun k => spec_l2Column.f k (upM m) (Poly.up v)) (Poly.up (Mat.colM m v)) := spec_l2Column_l0 n m v hm hv hvl hn hml m.length 0 (by omega)

theorem impl_identity_l0 (n : Nat) (hn : n ≤ 1000) : ∀ d i : Nat, i + d = n → Ev (fun k => impl_identity.l0 k (n : Int) (idL n i) (n : Int) (i : Int)) (idL n n) := by
 intro d
 induction d with
 | zero =>
  intro i hi
  obtain rfl : i = n := by omega
  exact Ev.step (f := fun _ => some (idL i i)) (fun k => by rw [impl_identity.l0.eq_2, if_neg (by omega)]) (Ev.now _)
 | succ d ih =>
  intro i hi
  refine Ev.step (f := fun k => impl_identity.l0 k (n : Int) (idL n (i + 1)) (n : Int) ((i + 1 : Nat) : Int)) (fun k => ?_) (ih (i + 1) (by omega))
  rw [impl_identity.l0.eq_2, if_pos (by omega), if_pos (by omega), if_pos (by omega)]
  simp only [Option.bind_some, Int.toNat_natCast]
  rw [if_pos (by omega), if_pos (by rw [List.length_replicate]; omega), if_pos (by rw [idL_length]; omega), wrap_succ i (by omega), idL_succ]
  rfl
theorem impl_identity_ev (n : Nat) (hn : n ≤ 1000) : Ev (fun k => impl_identity.f k (n : Int)) (idL n n) := impl_identity_l0 n hn n 0 (by omega)

theorem bes_snoc {m s : List (List Nat)} (h : m.length = s.length) {i : Nat} (hi : i < m.length) : upM ((Mat.bes m s).take i) ++ [Poly.up (m.getD i []) ++ Poly.up (s.getD i [])] = upM ((Mat.bes m s).take (i + 1)) := by
 have hb := Mat.bes_at h i
 have hlt : i < (Mat.bes m s).length := by rw [Mat.bes_length h]; exact hi
 rw [List.getD_eq_getElem?_getD, List.getElem?_eq_getElem hlt, Option.getD_some] at hb
 rw [List.take_succ_eq_append_getElem hlt, hb, ← upM_snoc]
 congr 2
 unfold Poly.up
 rw [List.map_append]
theorem impl_beside_l0 (m s : List (List Nat)) (hl : m.length = s.length) (hm : m.length ≤ 1000) (hr : ∀ i, (m.getD i []).length ≤ 1000) (hs : ∀ i, (s.getD i []).length ≤ 1000) : ∀ d i : Nat, i + d = m.length → Ev (fun k => impl_beside.l0 k (upM s) (upM ((Mat.bes m s).take i)) (upM m) ((upM m).length : Int) (i : Int)) (upM (Mat.bes m s)) := by
 intro d
 induction d with
 | zero =>
  intro i hi
  obtain rfl : i = m.length := by omega
  have e : (Mat.bes m s).take m.length = Mat.bes m s := by rw [← Mat.bes_length hl, List.take_length]
  rw [e]
  exact Ev.step (f := fun _ => some (upM (Mat.bes m s))) (fun k => by rw [impl_beside.l0.eq_2, if_neg (by rw [upM_length]; omega)]) (Ev.now _)
 | succ d ih =>
  intro i hi
  have h1 := hr i
  have h2 := hs i
  have hc : slices_Clone_int_int.f (Poly.up (m.getD i [])) = some (Poly.up (m.getD i [])) := by unfold slices_Clone_int_int.f; rw [if_pos (by rw [Poly.up_length]; omega)]
  refine Ev.step (f := fun k => impl_beside.l0 k (upM s) (upM ((Mat.bes m s).take (i + 1))) (upM m) ((upM m).length : Int) ((i + 1 : Nat) : Int)) (fun k => ?_) (ih (i + 1) (by omega))
  rw [impl_beside.l0.eq_2, if_pos (by rw [upM_length]; omega), if_pos (by omega), if_pos (by rw [upM_length]; omega), rdL_up, rdL_up, hc, Option.bind_some, if_pos (by rw [upM_length]; omega), if_pos (by rw [Poly.up_length, Poly.up_length]; omega), if_pos (by rw [upM_length, List.length_take]; omega), bes_snoc hl (by omega), wrap_succ i (by omega)]
theorem impl_beside_ev (m s : List (List Nat)) (hl : m.length = s.length) (hm : m.length ≤ 1000) (hr : ∀ i, (m.getD i []).length ≤ 1000) (hs : ∀ i, (s.getD i []).length ≤ 1000) : Ev (fun k => impl_beside.f k (upM m) (upM s)) (upM (Mat.bes m s)) := impl_beside_l0 m s hl hm hr hs m.length 0 (by omega)

/-- The loop over the terms of a discrepancy. -/
theorem impl_locator_l1 (s : List Nat) (hs : Poly.AllB s) (hl : s.length ≤ 100) {k : Nat} (hk : k < s.length) {t : Bm.St} (h : Bm.Inv s k t) {R : List Int} (hj : Ev (fun r => impl_locator.j2 r (Poly.up s) (Poly.up t.c) (Poly.up t.b) (t.long : Int) (t.m : Int) (t.last : Int) (k : Int) ((Bm.disc s t k : Nat) : Int) (s.length : Int) (k : Int)) R) :
  ∀ d i : Nat, i + d = min (t.long + 1) t.c.length → Ev (fun r => impl_locator.l1 r (Poly.up s) (Poly.up t.c) (Poly.up t.b) (t.long : Int) (t.m : Int) (t.last : Int) (k : Int) ((Lin.xs i (fun i => Gf.gm (t.c.getD i 0) (s.getD (k - i) 0)) : Nat) : Int) (i : Int) (s.length : Int) (k : Int)) R := by
 have hlk := h.lk
 have hsz := h.sz
 intro d
 induction d with
 | zero =>
  intro i hi
  obtain rfl : i = min (t.long + 1) t.c.length := by omega
  refine Ev.step (fun k => impl_locator.l1.eq_2 _ _ _ _ _ _ _ _ _ _ _ k) ?_
  by_cases h1 : min (t.long + 1) t.c.length ≤ t.long
  ·have z1 : ((min (t.long + 1) t.c.length : Nat) : Int) ≤ (t.long : Int) := by omega
   have z2 : ¬ ((min (t.long + 1) t.c.length : Nat) : Int) < (t.c.length : Int) := by omega
   simp only [Poly.up_length, if_pos z1, if_neg z2]
   exact hj
  ·have z1 : ¬ ((min (t.long + 1) t.c.length : Nat) : Int) ≤ (t.long : Int) := by omega
   simp only [if_neg z1]
   exact hj
 | succ d ih =>
  intro i hi
  have z1 : (i : Int) ≤ (t.long : Int) := by omega
  have z2 : (i : Int) < (t.c.length : Int) := by omega
  have z3 : (0 : Int) ≤ (i : Int) := by omega
  have z4 : (0 : Int) ≤ ((k - i : Nat) : Int) := by omega
  have z5 : ((k - i : Nat) : Int) < (s.length : Int) := by omega
  have hg := Pev.getD_lt h.cb i
  have hx : Lin.xs i (fun i => Gf.gm (t.c.getD i 0) (s.getD (k - i) 0)) < 256 := Lin.xs_lt fun j _ => Gf.gm_lt _ (Pev.getD_lt h.cb j)
  refine Ev.step (fun k => impl_locator.l1.eq_2 _ _ _ _ _ _ _ _ _ _ _ k) ?_
  simp only [Poly.up_length, Poly.rd_up, if_pos z1, if_pos z2, if_pos z3, wrap_sub k i (by omega) (by omega), if_pos z4, if_pos z5, wrap_up i (by omega)]
  refine Ev.bind (impl_mul_ev _ _ hg (hs.get (k - i))) ?_
  rw [xor_up hx (Gf.gm_lt _ hg)]
  exact ih (i + 1) (by omega)
/-- The loop that adds. -/
theorem impl_locator_l2 (s : List Nat) (k dd f : Nat) (t : Bm.St) (hf : f < 256) (hb : Poly.AllB t.b) (hm : t.m ≤ 1000) (hbl : t.b.length ≤ 1000) {R : List Int} : ∀ (d j : Nat) (out : List Nat), j + d = t.b.length → Poly.AllB out → t.m + t.b.length ≤ out.length → out.length ≤ 5000 →
  (∀ o2, o2 = Poly.mrow f (t.b.drop j) (t.m + j) out → Ev (fun r => impl_locator.l2 r (Poly.up s) (Poly.up t.c) (Poly.up t.b) (t.long : Int) (t.m : Int) (t.last : Int) (k : Int) (dd : Int) (f : Int) (Poly.up o2) (s.length : Int) (k : Int) (Poly.up t.b) (t.b.length : Int) (t.b.length : Int)) R) →
  Ev (fun r => impl_locator.l2 r (Poly.up s) (Poly.up t.c) (Poly.up t.b) (t.long : Int) (t.m : Int) (t.last : Int) (k : Int) (dd : Int) (f : Int) (Poly.up out) (s.length : Int) (k : Int) (Poly.up t.b) (t.b.length : Int) (j : Int)) R := by
 intro d
 induction d with
 | zero =>
  intro j out hj ho hl hl2 hend
  obtain rfl : j = t.b.length := by omega
  exact hend out (by rw [List.drop_length]; rfl)
 | succ d ih =>
  intro j out hj ho hl hl2 hend
  have hjl : j < t.b.length := by omega
  have z1 : (j : Int) < (t.b.length : Int) := by omega
  have z2 : (0 : Int) ≤ (j : Int) := by omega
  have z3 : (0 : Int) ≤ ((j + t.m : Nat) : Int) := by omega
  have z4 : ((j + t.m : Nat) : Int) < (out.length : Int) := by omega
  have hx := xor_up (ho.get (j + t.m)) (Gf.gm_lt (t.b.getD j 0) hf)
  refine Ev.step (fun k => impl_locator.l2.eq_2 _ _ _ _ _ _ _ _ _ _ _ _ _ _ _ k) ?_
  simp only [Poly.rd_up, Poly.up_length, if_pos z1, if_pos z2, wrap_addn j t.m (by omega), if_pos z3, if_pos z4, wrap_up j (by omega), Int.toNat_natCast]
  refine Ev.bind (impl_mul_ev f (t.b.getD j 0) hf (hb.get j)) ?_
  simp only [hx, Poly.up_set]
  refine ih (j + 1) (out.set (j + t.m) (out.getD (j + t.m) 0 ^^^ Gf.gm f (t.b.getD j 0))) (by omega) (ho.set _ (Gf.xor_byte (ho.get _) (Gf.gm_lt _ hf))) (by rw [List.length_set]; exact hl) (by rw [List.length_set]; exact hl2) fun o2 h2 => hend o2 ?_
  rw [h2, drop_getD t.b j hjl, show t.m + (j + 1) = t.m + j + 1 by omega, Nat.add_comm j t.m]
  rfl
theorem impl_locator_l0 (s : List Nat) (hs : Poly.AllB s) (hl : s.length ≤ 100) : ∀ (d k : Nat) (t : Bm.St), k + d = s.length → Bm.Inv s k t →
  Ev (fun r => impl_locator.l0 r (Poly.up s) (Poly.up t.c) (Poly.up t.b) (t.long : Int) (t.m : Int) (t.last : Int) (s.length : Int) (k : Int)) (Poly.up (Poly.tr (Bm.run s d k t).c)) := by
 intro d
 induction d with
 | zero =>
  intro k t hk h
  obtain rfl : k = s.length := by omega
  have hsz := h.sz
  have z : ¬ ((s.length : Nat) : Int) < ((s.length : Nat) : Int) := by omega
  refine Ev.step (fun k => impl_locator.l0.eq_2 _ _ _ _ _ _ _ _ k) ?_
  simp only [if_neg z]
  exact Ev.bind (impl_trimmed_ev t.c (by omega)) (Ev.now _)
 | succ d ih =>
  intro k t hk h
  have hlk := h.lk
  have hsz := h.sz
  have hmq := h.mq
  have hkl : k < s.length := by omega
  have z : (k : Int) < (s.length : Int) := by omega
  have ih' := ih (k + 1) (Bm.step s k t) (by omega) (Bm.inv_step hs h)
  have hd : Bm.disc s t k < 256 := Bm.disc_lt h.cb
  refine Ev.step (fun k => impl_locator.l0.eq_2 _ _ _ _ _ _ _ _ k) ?_
  simp only [if_pos z]
  refine impl_locator_l1 s hs hl hkl h ?_ (min (t.long + 1) t.c.length) 0 (by omega)
  refine Ev.step (fun k => impl_locator.j2.eq_2 _ _ _ _ _ _ _ _ _ _ k) ?_
  show Ev _ (Poly.up (Poly.tr (Bm.run s d (k + 1) (Bm.step s k t)).c))
  unfold Bm.step at ih' ⊢
  by_cases e : Bm.disc s t k = 0
  ·have z2 : ((Bm.disc s t k : Nat) : Int) = 0 := by omega
   simp only [if_pos e] at ih' ⊢
   simp only [if_pos z2, wrap_up t.m (by omega), wrap_up k (by omega)]
   exact ih'
  ·have z2 : ¬ ((Bm.disc s t k : Nat) : Int) = 0 := by omega
   simp only [if_neg e] at ih' ⊢
   simp only [if_neg z2]
   refine Ev.bind (impl_inverse_ev t.last h.lb) ?_
   refine Ev.bind (impl_mul_ev _ _ hd (Gf.gi_lt _)) ?_
   have e0 : mx 0 (wrap64 (wrap64 ((t.m : Int) + (t.b.length : Int)) - (t.c.length : Int))) = ((t.m + t.b.length - t.c.length : Nat) : Int) := by
    rw [wrap_addn t.m t.b.length (by omega), wrap_id (by omega) (by omega)]
    unfold mx
    split <;> omega
   have z3 : (0 : Int) ≤ ((t.m + t.b.length - t.c.length : Nat) : Int) := by omega
   have z4 : t.c.length + ((t.m + t.b.length - t.c.length : Nat) : Int).toNat < 17592186044416 := by rw [Int.toNat_natCast]; omega
   have z7 : (Poly.up t.c).length < 17592186044416 := by rw [Poly.up_length]; omega
   have hcl : slices_Clone_int_int.f (Poly.up t.c) = some (Poly.up t.c) := by
    unfold slices_Clone_int_int.f
    exact if_pos z7
   refine Ev.congr (f := fun r => impl_locator.l2 r (Poly.up s) (Poly.up t.c) (Poly.up t.b) (t.long : Int) (t.m : Int) (t.last : Int) (k : Int) ((Bm.disc s t k : Nat) : Int) ((Gf.gm (Bm.disc s t k) (Gf.gi t.last) : Nat) : Int) (Poly.up (t.c ++ List.replicate (t.m + t.b.length - t.c.length) 0)) (s.length : Int) (k : Int) (Poly.up t.b) (t.b.length : Int) ((0 : Nat) : Int)) (fun r => ?_) ?_
   ·rw [hcl, Option.bind_some, Poly.up_length t.b, Poly.up_length t.c, e0, if_pos z3, if_pos z4, Int.toNat_natCast, Poly.up_zeros, Poly.up_append]; rfl
   refine impl_locator_l2 s k (Bm.disc s t k) (Gf.gm (Bm.disc s t k) (Gf.gi t.last)) t (Gf.gm_lt _ hd) h.bb (by omega) (by omega) t.b.length 0 _ (by omega) (Poly.AllB.append h.cb (Poly.AllB.zeros _)) (by rw [List.length_append, List.length_replicate]; omega) (by rw [List.length_append, List.length_replicate]; omega) fun o2 ho2 => ?_
   rw [List.drop_zero, Nat.add_zero] at ho2
   have ho3 : o2 = Bm.upd t.c t.b (Gf.gm (Bm.disc s t k) (Gf.gi t.last)) t.m := ho2
   rw [← ho3] at ih' ⊢
   have z8 : ¬ ((t.b.length : Nat) : Int) < ((t.b.length : Nat) : Int) := by omega
   refine Ev.step (fun k => impl_locator.l2.eq_2 _ _ _ _ _ _ _ _ _ _ _ _ _ _ _ k) ?_
   simp only [if_neg z8, wrap_up t.m (by omega), wrap_up k (by omega), wrap_two t.long (by omega)]
   by_cases e2 : 2 * t.long ≤ k
   ·have z9 : ((2 * t.long : Nat) : Int) ≤ (k : Int) := by omega
    simp only [if_pos e2] at ih' ⊢
    simp only [if_pos z9, wrap_sub (k + 1) t.long (by omega) (by omega)]
    exact ih'
   ·have z9 : ¬ ((2 * t.long : Nat) : Int) ≤ (k : Int) := by omega
    simp only [if_neg e2] at ih' ⊢
    simp only [if_neg z9]
    exact ih'
theorem impl_locator_ev (s : List Nat) (hs : Poly.AllB s) (hl : s.length ≤ 100) : Ev (fun r => impl_locator.f r (Poly.up s)) (Poly.up (Bm.loc s)) := by
 have := impl_locator_l0 s hs hl s.length 0 Bm.st0 (by omega) (Bm.inv0 s)
 unfold impl_locator.f
 rw [Poly.up_length]
 exact this

theorem spec_l1Cur_next_ex {s : List Int} (hs : BY s) {a : Int} (d : Int) (ha : 0 ≤ a) (hb : a ≤ 1000000000000) : ∃ v a' d', spec_l1Cur_next.f s a d = some (v, a', d') ∧ 0 ≤ v ∧ v ≤ 255 ∧ 0 ≤ a' ∧ a' ≤ a + 1 := by
 have ew : wrap64 (a + 1) = a + 1 := wrap_in (by omega) (by omega)
 unfold spec_l1Cur_next.f
 rw [ew]
 have hr := hs.rd a
 by_cases h1 : a < (s.length : Int)
 ·rw [if_pos h1, if_pos ha]
  by_cases h2 : a + 1 ≤ (s.length : Int)
  ·rw [if_pos h2]
   exact ⟨_, _, _, rfl, by rw [wrap_in (by omega) (by omega)]; omega, by rw [wrap_in (by omega) (by omega)]; omega, by omega, by omega⟩
  ·omega
 ·rw [if_neg h1]
  by_cases h2 : a + 1 ≤ (s.length : Int)
  ·omega
  ·rw [if_neg h2]
   generalize IntKind.u64.wrap ((IntKind.u64.wrap ((IntKind.u64.wrap (d * 6364136223846793005)))) + 1442695040888963407) = z
   have hz := and_255 (z / 1099511627776)
   exact ⟨_, _, _, rfl, by rw [wrap_in (by omega) (by omega)]; omega, by rw [wrap_in (by omega) (by omega)]; omega, by omega, by omega⟩

theorem spec_l1Cur_pick_ex {s : List Int} (hs : BY s) {a : Int} (d : Int) (n : Int) (ha : 0 ≤ a) (hb : a ≤ 900000000000) : ∃ v a' d', spec_l1Cur_pick.f s a d n = some (v, a', d') ∧ 0 ≤ v ∧ (v < n ∨ v = 0) ∧ v ≤ 65535 ∧ 0 ≤ a' ∧ a' ≤ a + 2 := by
 unfold spec_l1Cur_pick.f
 by_cases h1 : n ≤ 1
 ·rw [if_pos h1]; exact ⟨_, _, _, rfl, by omega, by omega, by omega, by omega, by omega⟩
 ·rw [if_neg h1]
  obtain ⟨v, a1, d1, e1, h2, h3, h4, h5⟩ := spec_l1Cur_next_ex hs d ha (by omega)
  rw [e1, Option.bind_some]
  by_cases h6 : n > 200
  ·obtain ⟨v2, a2, d2, e2, h7, h8, h9, h10⟩ := spec_l1Cur_next_ex hs d1 h4 (by omega)
   have ew : wrap64 (wrap64 (v * 256) + v2) = v * 256 + v2 := by rw [wrap_in (n := v * 256) (by omega) (by omega), wrap_in (by omega) (by omega)]
   have ht := tmod_in (v * 256 + v2) n (by omega) (by omega)
   simp only [if_pos h6, e2, Option.bind_some, ew, if_neg (show ¬ n = 0 by omega)]
   exact ⟨_, _, _, rfl, by omega, by omega, by omega, by omega, by omega⟩
  ·have ht := tmod_in v n (by omega) (by omega)
   simp only [if_neg h6, if_neg (show ¬ n = 0 by omega)]
   exact ⟨_, _, _, rfl, by omega, by omega, by omega, by omega, by omega⟩

theorem spec_l1Cur_one_ex {s : List Int} (hs : BY s) {a : Int} (d : Int) (n : Int) (ha : 0 ≤ a) (hb : a ≤ 900000000000) : ∃ v a' d', spec_l1Cur_one.f s a d n = some (v, a', d') ∧ 0 ≤ a' ∧ a' ≤ a + 2 := by
 obtain ⟨v, a1, d1, e1, h2, h3, h4, h5, h6⟩ := spec_l1Cur_pick_ex hs d n ha hb
 unfold spec_l1Cur_one.f
 rw [e1, Option.bind_some]
 exact ⟨_, _, _, rfl, h5, h6⟩

theorem isB_in {x : Int} (h0 : 0 ≤ x) (h1 : x ≤ 255) : isB x = true := by
 unfold isB
 simp only [decide_eq_true_eq]; omega
theorem spec_l1Cur_elements_l0 {s : List Int} (hs : BY s) : ∀ (n : Nat) (l : List Int) (a d : Int), n + l.length ≤ 1000 → l.all isB = true → 0 ≤ a → a ≤ 800000000000 - 2 * n →
  ∃ v a' d', Ev (fun k => spec_l1Cur_elements.l0 k (n : Int) l s a d) (v, a', d') ∧ v.length = l.length + n ∧ v.all isB = true ∧ 0 ≤ a' ∧ a' ≤ a + 2 * n := by
 intro n
 induction n with
 | zero =>
  intro l a d _ hl ha _
  exact ⟨l, a, d, Ev.step (f := fun _ => some (l, a, d)) (fun k => by rw [spec_l1Cur_elements.l0.eq_2, if_neg (by omega)]) (Ev.now _), by omega, hl, ha, by omega⟩
 | succ n ih =>
  intro l a d hn hl ha hb
  obtain ⟨x, a1, d1, e1, h2, h3, h4, h5, h6⟩ := spec_l1Cur_pick_ex hs d 256 ha (by omega)
  obtain ⟨v, a2, d2, E, q1, q2, q3, q4⟩ := ih (l ++ [x]) a1 d1 (by rw [List.length_append]; simp; omega) (by rw [List.all_append, hl]; simp [isB_in h2 (show x ≤ 255 by omega)]) h5 (by omega)
  refine ⟨v, a2, d2, ?_, by rw [q1, List.length_append]; simp; omega, q2, q3, by omega⟩
  refine Ev.step (f := fun k => spec_l1Cur_elements.l0 k (n : Int) (l ++ [x]) s a1 d1) (fun k => ?_) E
  have ew : wrap64 (((n + 1 : Nat) : Int) - 1) = (n : Int) := by rw [wrap_in (by omega) (by omega)]; omega
  rw [spec_l1Cur_elements.l0.eq_2, if_pos (by omega), e1, Option.bind_some]
  show (if l.length < 17592186044416 then spec_l1Cur_elements.l0 k (wrap64 (((n + 1 : Nat) : Int) - 1)) (l ++ [x]) s a1 d1 else none) = _
  rw [if_pos (by omega), ew]
theorem spec_l1Cur_elements_ex {s : List Int} (hs : BY s) {a : Int} (d : Int) (n : Nat) (hn : n ≤ 100) (ha : 0 ≤ a) (hb : a ≤ 700000000000) :
  ∃ v a' d', Ev (fun k => spec_l1Cur_elements.f k s a d (n : Int)) (v, a', d') ∧ v.length = n ∧ v.all isB = true ∧ 0 ≤ a' ∧ a' ≤ a + 2 * n := by
 obtain ⟨v, a1, d1, E, h1, h2, h3, h4⟩ := spec_l1Cur_elements_l0 hs n [] a d (by simp; omega) rfl ha (by omega)
 exact ⟨v, a1, d1, E, by simpa using h1, h2, h3, h4⟩

theorem spec_DrawEncodeWord_ex {s : List Int} (hs : BY s) : ∃ v t, Ev (fun k => spec_DrawEncodeWord.f k s) (v, t) ∧ v.length ≤ 100 := by
 obtain ⟨x, a1, d1, e1, h2, h3, h4, h5, h6⟩ := spec_l1Cur_pick_ex hs (a := 0) 0 3 (by omega) (by omega)
 obtain ⟨b, a2, d2, e2, g1, g2⟩ := spec_l1Cur_one_ex hs d1 20 h5 (by omega)
 cases b with
 | true =>
  obtain ⟨y, a3, d3, e3, k2, k3, k4, k5, k6⟩ := spec_l1Cur_pick_ex hs d2 7 g1 (by omega)
  obtain ⟨n, rfl⟩ := nat_of k2
  have ew : wrap64 (17 + (n : Int)) = ((17 + n : Nat) : Int) := by rw [wrap_in (by omega) (by omega)]; omega
  obtain ⟨m, a4, d4, E4, j1, j2, j3, j4⟩ := spec_l1Cur_elements_ex hs d3 (17 + n) (by omega) k5 (by omega)
  obtain ⟨z, a5, d5, e5, i2, i3, i4, i5, i6⟩ := spec_l1Cur_pick_ex hs d4 5 j3 (by omega)
  refine ⟨m, z, ?_, by omega⟩
  unfold spec_DrawEncodeWord.f
  simp only [e1, e2, e3, Option.bind_some, if_true, ew]
  refine Ev.bind E4 ?_
  simp only [e5, Option.bind_some]
  exact Ev.now _
 | false =>
  obtain ⟨y, a3, d3, e3, k2, k3, k4, k5, k6⟩ := spec_l1Cur_pick_ex hs d2 8 g1 (by omega)
  obtain ⟨n, rfl⟩ := nat_of k2
  have ew : wrap64 (1 + (n : Int)) = ((1 + n : Nat) : Int) := by rw [wrap_in (by omega) (by omega)]; omega
  obtain ⟨m, a4, d4, E4, j1, j2, j3, j4⟩ := spec_l1Cur_elements_ex hs d3 (1 + n) (by omega) k5 (by omega)
  refine ⟨m, wrap64 (1 + x), ?_, by omega⟩
  unfold spec_DrawEncodeWord.f
  simp only [e1, e2, e3, Option.bind_some, Bool.false_eq_true, if_false, ew]
  exact Ev.bind E4 (Ev.now _)

theorem spec_l1MulPoly_l0 (p q : List Nat) (hp : Poly.AllB p) (hq : Poly.AllB q) (hpl : p.length ≤ 1000) (hql : q.length ≤ 1000) : ∀ (d i : Nat) (out : List Nat), i + d = p.length → out.length = p.length + q.length → Poly.AllB out →
  Ev (fun k => spec_l1MulPoly.l0 k (Poly.up q) (Poly.up out) (Poly.up p) (p.length : Int) (i : Int)) (Poly.up (Poly.tr (Poly.mpA q (p.drop i) i out))) := by
 intro d
 induction d with
 | zero =>
  intro i out hi hol hob
  obtain rfl : i = p.length := by omega
  rw [List.drop_length]
  refine Ev.step (f := fun k => (spec_l1Cut.f k (Poly.up out)).bind fun t => some t) (fun k => ?_) (Ev.bind (f := fun _ t => some t) (spec_l1Cut_ev out (by omega)) (Ev.now _))
  simp only [spec_l1MulPoly.l0]
  rw [if_neg (by omega)]
 | succ d ih =>
  intro i out hi hol hob
  have hlt : i < p.length := by omega
  have ha : p.getD i 0 < 256 := hp.get i
  have inner : ∀ (e j : Nat) (o : List Nat), j + e = q.length → o.length = p.length + q.length → Poly.AllB o →
    Ev (fun k => spec_l1MulPoly.l1 k (Poly.up q) (Poly.up o) (i : Int) ((p.getD i 0 : Nat) : Int) (Poly.up p) (p.length : Int) (i : Int) (Poly.up q) (q.length : Int) (j : Int)) (Poly.up (Poly.tr (Poly.mpA q (p.drop (i + 1)) (i + 1) (Poly.mrow (p.getD i 0) (q.drop j) (i + j) o)))) := by
   intro e
   induction e with
   | zero =>
    intro j o hj hol hob
    obtain rfl : j = q.length := by omega
    rw [List.drop_length]
    refine Ev.step (f := fun k => spec_l1MulPoly.l0 k (Poly.up q) (Poly.up o) (Poly.up p) (p.length : Int) ((i + 1 : Nat) : Int)) (fun k => ?_) (ih (i + 1) o (by omega) hol hob)
    simp only [spec_l1MulPoly.l1, wrap_succ i (by omega)]
    rw [if_neg (by omega)]
   | succ e ihe =>
    intro j o hj hol hob
    have hjl : j < q.length := by omega
    have hb : q.getD j 0 < 256 := hq.get j
    have hdrop : q.drop j = q.getD j 0 :: q.drop (j + 1) := by
     rw [List.drop_eq_getElem_cons hjl]
     simp [List.getD_eq_getElem?_getD, List.getElem?_eq_getElem hjl]
    rw [hdrop]
    unfold Poly.mrow
    have hx := xor_up (hob.get (i + j)) (Gf.gm_lt (q.getD j 0) ha)
    refine Ev.step (f := fun k => (spec_l1Mul.f k ((p.getD i 0 : Nat) : Int) ((q.getD j 0 : Nat) : Int)).bind fun t => spec_l1MulPoly.l1 k (Poly.up q) ((Poly.up o).set (i + j) (Go.bits .xor .i64 ((o.getD (i + j) 0 : Nat) : Int) t)) (i : Int) ((p.getD i 0 : Nat) : Int) (Poly.up p) (p.length : Int) (i : Int) (Poly.up q) (q.length : Int) ((j + 1 : Nat) : Int)) (fun k => ?_) ?_
    ·simp only [spec_l1MulPoly.l1, wrap_add i j (by omega), wrap_succ j (by omega), Poly.rd_up, Poly.up_length, Int.toNat_natCast]
     rw [if_pos (by omega), if_pos (by omega), if_pos (by omega), if_pos (by omega), if_pos (by omega)]
    ·refine Ev.bind (f := fun k t => spec_l1MulPoly.l1 k (Poly.up q) ((Poly.up o).set (i + j) (Go.bits .xor .i64 ((o.getD (i + j) 0 : Nat) : Int) t)) (i : Int) ((p.getD i 0 : Nat) : Int) (Poly.up p) (p.length : Int) (i : Int) (Poly.up q) (q.length : Int) ((j + 1 : Nat) : Int)) (spec_l1Mul_ev _ _ ha hb) ?_
     simp only [hx, Poly.up_set]
     have := ihe (j + 1) (o.set (i + j) (o.getD (i + j) 0 ^^^ Gf.gm (p.getD i 0) (q.getD j 0))) (by omega) (by rw [List.length_set]; exact hol) (hob.set _ (Gf.xor_byte (hob.get _) (Gf.gm_lt _ ha)))
     rw [show i + (j + 1) = i + j + 1 by omega] at this
     exact this
  have hdrop : p.drop i = p.getD i 0 :: p.drop (i + 1) := by
   rw [List.drop_eq_getElem_cons hlt]
   simp [List.getD_eq_getElem?_getD, List.getElem?_eq_getElem hlt]
  rw [hdrop]
  unfold Poly.mpA
  have := inner q.length 0 out (by omega) hol hob
  rw [List.drop_zero, Nat.add_zero] at this
  refine Ev.step (f := fun k => spec_l1MulPoly.l1 k (Poly.up q) (Poly.up out) (i : Int) ((p.getD i 0 : Nat) : Int) (Poly.up p) (p.length : Int) (i : Int) (Poly.up q) (q.length : Int) 0) (fun k => ?_) this
  simp only [spec_l1MulPoly.l0, Poly.rd_up, Poly.up_length]
  rw [if_pos (by omega), if_pos (by omega), if_pos (by omega)]
theorem spec_l1MulPoly_ev (p q : List Nat) (hp : Poly.AllB p) (hq : Poly.AllB q) (hpl : p.length ≤ 1000) (hql : q.length ≤ 1000) : Ev (fun k => spec_l1MulPoly.f k (Poly.up p) (Poly.up q)) (Poly.up (Poly.mulP p q)) := by
 unfold spec_l1MulPoly.f Poly.mulP
 have z1 : (0 : Int) ≤ ((p.length + q.length : Nat) : Int) := by omega
 have z2 : p.length + q.length ≤ 35184372088832 := by omega
 simp only [Poly.up_length, wrap_add p.length q.length (by omega), if_pos z1, Int.toNat_natCast, if_pos z2, Poly.up_zeros]
 exact spec_l1MulPoly_l0 p q hp hq hpl hql p.length 0 _ (by omega) (by simp) (Poly.AllB.zeros _)

theorem spec_l4Generator_l0 (w : Nat) (hw : w ≤ 3) : ∀ (d k0 : Nat) (acc : List Nat), k0 + d = 2 * w → acc.length ≤ 900 - 2 * d → Poly.AllB acc → Ev (fun k => spec_l4Generator.l0 k (w : Int) (Poly.up acc) (k0 : Int)) (Poly.up (Poly.genA d k0 acc)) := by
 have e2 : wrap64 (2 * (w : Int)) = ((2 * w : Nat) : Int) := by rw [wrap_id (by omega) (by omega)]; omega
 intro d
 induction d with
 | zero =>
  intro k0 acc hk _ _
  refine Ev.step (f := fun _ => some (Poly.up acc)) (fun k => ?_) (Ev.now _)
  simp only [spec_l4Generator.l0, e2]
  rw [if_neg (by omega)]
 | succ d ih =>
  intro k0 acc hk hl hb
  have hq : Poly.AllB [Gf.pw 2 k0, 1] := Poly.AllB.cons (Gf.pw_lt _) (Poly.AllB.cons (by decide) Poly.AllB.nil)
  have hml := Poly.mulP_length acc [Gf.pw 2 k0, 1]
  simp only [List.length_cons, List.length_nil] at hml
  refine Ev.step (f := fun k => (spec_l1Pow.f k 2 (k0 : Int)).bind fun t => (spec_l1MulPoly.f k (Poly.up acc) [t, 1]).bind fun u => spec_l4Generator.l0 k (w : Int) u ((k0 + 1 : Nat) : Int)) (fun k => ?_) ?_
  ·simp only [spec_l4Generator.l0, e2, wrap_succ k0 (by omega)]
   rw [if_pos (by omega)]
  ·refine Ev.bind (f := fun k t => (spec_l1MulPoly.f k (Poly.up acc) [t, 1]).bind fun u => spec_l4Generator.l0 k (w : Int) u ((k0 + 1 : Nat) : Int)) (spec_l1Pow_ev 2 k0 (by decide) (by omega)) ?_
   exact Ev.bind (f := fun k u => spec_l4Generator.l0 k (w : Int) u ((k0 + 1 : Nat) : Int)) (spec_l1MulPoly_ev acc [Gf.pw 2 k0, 1] hb hq (by omega) (by simp)) (ih (k0 + 1) _ (by omega) (by omega) (Poly.mulP_bytes _ hb))
theorem spec_l4Generator_ev (w : Nat) (hw : w ≤ 3) : Ev (fun k => spec_l4Generator.f k (w : Int)) (Poly.up (Poly.gen w)) :=
 spec_l4Generator_l0 w hw (2 * w) 0 [1] (by omega) (by simp; omega) (Poly.AllB.cons (by decide) Poly.AllB.nil)

theorem spec_l1Poly_ev (l : List Int) : Ev (fun k => spec_l1Poly.f k l) (isP l) := by
 unfold spec_l1Poly.f isP
 by_cases h1 : l.length ≤ 40
 ·have z : (l.length : Int) ≤ 40 := by omega
  simp only [if_pos z, decide_eq_true h1, Bool.true_and]
  refine Ev.bind (spec_l1All_ev l (by omega)) ?_
  cases l.all isB
  ·exact Ev.now _
  ·by_cases h2 : l.length = 0
   ·have z2 : (l.length : Int) = 0 := by omega
    simp only [if_true, if_pos z2, decide_eq_true h2, Bool.true_and, Bool.true_or]
    exact Ev.now _
   ·have z2 : ¬ (l.length : Int) = 0 := by omega
    have z3 : (0 : Int) ≤ (l.length : Int) - 1 := by omega
    have z4 : (l.length : Int) - 1 < (l.length : Int) := by omega
    simp only [if_true, if_neg z2, decide_eq_false h2, Bool.true_and, Bool.false_or, wrap_down l.length (by omega), if_pos z3, if_pos z4]
    exact Ev.now _
 ·have z : ¬ (l.length : Int) ≤ 40 := by omega
  simp only [if_neg z, decide_eq_false h1, Bool.false_and]
  exact Ev.now _

theorem spec_DivPoly_l (q : List Nat) (hq : Poly.AllB q) (hq0 : 0 < q.length) (hql : q.length ≤ 1000) : ∀ (n : Nat) (quo rest : List Nat), Poly.AllB quo → Poly.AllB rest → n ≤ quo.length → n + q.length ≤ rest.length + 1 → quo.length ≤ 5000 → rest.length ≤ 5000 →
  Ev (fun r => spec_DivPoly.l0 r (Poly.up q) (Poly.up rest) (Poly.up quo) ((q.getD (q.length - 1) 0 : Nat) : Int) ((n : Int) - 1)) (Poly.up (Poly.tr (Poly.dvA q (Gf.gi (q.getD (q.length - 1) 0)) n quo rest).1), Poly.up (Poly.tr (Poly.dvA q (Gf.gi (q.getD (q.length - 1) 0)) n quo rest).2), true) := by
 have ht := Pev.getD_lt hq (q.length - 1)
 intro n
 induction n with
 | zero =>
  intro quo rest h1 h2 _ _ h5 h6
  have z : ¬ (((0 : Nat) : Int) - 1 ≥ 0) := by omega
  refine Ev.step (fun k => spec_DivPoly.l0.eq_2 _ _ _ _ _ k) ?_
  simp only [if_neg z]
  exact Ev.bind (spec_l1Cut_ev quo (by omega)) (Ev.bind (spec_l1Cut_ev rest (by omega)) (Ev.now _))
 | succ n ih =>
  intro quo rest h1 h2 h3 h4 h5 h6
  have e0 : ((n + 1 : Nat) : Int) - 1 = (n : Int) := by omega
  have e1 : wrap64 (wrap64 ((n : Int) + (q.length : Int)) - 1) = ((n + q.length - 1 : Nat) : Int) := by rw [wrap_addn _ _ (by omega), wrap_id (by omega) (by omega)]; omega
  have z1 : (n : Int) ≥ 0 := by omega
  have z2 : (0 : Int) ≤ ((n + q.length - 1 : Nat) : Int) := by omega
  have z3 : ((n + q.length - 1 : Nat) : Int) < (rest.length : Int) := by omega
  have z4 : (0 : Int) ≤ (n : Int) := by omega
  have z5 : (n : Int) < (quo.length : Int) := by omega
  have hf := Gf.gm_lt (Gf.gi (q.getD (q.length - 1) 0)) (Pev.getD_lt h2 (n + q.length - 1))
  rw [e0]
  refine Ev.step (fun k => spec_DivPoly.l0.eq_2 _ _ _ _ _ k) ?_
  simp only [Poly.up_length, Poly.rd_up, e1, if_pos z1, if_pos z2, if_pos z3, if_pos z4, if_pos z5, Int.toNat_natCast]
  refine Ev.bind (spec_l1Div_ev _ _ (Pev.getD_lt h2 (n + q.length - 1)) ht) ?_
  unfold Poly.dvA
  generalize Gf.gm (rest.getD (n + q.length - 1) 0) (Gf.gi (q.getD (q.length - 1) 0)) = f at hf ⊢
  rw [Poly.up_set]
  have inner : ∀ (d j : Nat) (out : List Nat), j + d = q.length → Poly.AllB out → out.length = rest.length → 
    Poly.mrow f (q.drop j) (n + j) out = Poly.mrow f q n rest → Ev (fun r => spec_DivPoly.l1 r (Poly.up q) (Poly.up out) (Poly.up (quo.set n f)) ((q.getD (q.length - 1) 0 : Nat) : Int) (n : Int) (f : Int) (Poly.up q) (q.length : Int) (j : Int)) (Poly.up (Poly.tr (Poly.dvA q (Gf.gi (q.getD (q.length - 1) 0)) n (quo.set n f) (Poly.mrow f q n rest)).1), Poly.up (Poly.tr (Poly.dvA q (Gf.gi (q.getD (q.length - 1) 0)) n (quo.set n f) (Poly.mrow f q n rest)).2), true) := by
   intro d
   induction d with
   | zero =>
    intro j out hj ho hl he
    obtain rfl : j = q.length := by omega
    rw [List.drop_length] at he
    have he' : out = Poly.mrow f q n rest := he
    have z : ¬ ((q.length : Nat) : Int) < ((q.length : Nat) : Int) := by omega
    refine Ev.step (fun k => spec_DivPoly.l1.eq_2 _ _ _ _ _ _ _ _ _ k) ?_
    simp only [if_neg z, wrap_down n (by omega)]
    rw [← he']
    exact ih (quo.set n f) out (Poly.AllB.set h1 n hf) ho (by rw [List.length_set]; omega) (by omega) (by rw [List.length_set]; omega) (by omega)
   | succ d ihd =>
    intro j out hj ho hl he
    have hjl : j < q.length := by omega
    have y1 : (j : Int) < (q.length : Int) := by omega
    have y2 : (0 : Int) ≤ (j : Int) := by omega
    have y3 : (0 : Int) ≤ ((n + j : Nat) : Int) := by omega
    have y4 : ((n + j : Nat) : Int) < (out.length : Int) := by omega
    refine Ev.step (fun k => spec_DivPoly.l1.eq_2 _ _ _ _ _ _ _ _ _ k) ?_
    simp only [Poly.up_length, Poly.rd_up, if_pos y1, if_pos y2, wrap_addn n j (by omega), if_pos y3, if_pos y4, wrap_up j (by omega), Int.toNat_natCast]
    refine Ev.bind (spec_l1Mul_ev f (q.getD j 0) hf (hq.get j)) ?_
    rw [xor_up (ho.get (n + j)) (Gf.gm_lt (q.getD j 0) hf), Poly.up_set]
    refine ihd (j + 1) (out.set (n + j) (out.getD (n + j) 0 ^^^ Gf.gm f (q.getD j 0))) (by omega) (ho.set _ (Gf.xor_byte (ho.get _) (Gf.gm_lt _ hf))) (by rw [List.length_set]; exact hl) ?_
    rw [← he, drop_getD q j hjl, show n + (j + 1) = n + j + 1 by omega]
    rfl
  exact inner q.length 0 rest (by omega) h2 rfl (by rw [List.drop_zero, Nat.add_zero])
theorem spec_DivPoly_ev (l m : List Int) : Ev (fun k => spec_DivPoly.f k l m) (divPV l m) := by
 have no : Ev (fun k => spec_DivPoly.j0 k l m true) (([] : List Int), ([] : List Int), false) := Ev.step (f := fun _ => some (([] : List Int), ([] : List Int), false)) (fun k => by simp only [spec_DivPoly.j0]; rfl) (Ev.now _)
 unfold spec_DivPoly.f divPV
 refine Ev.bind (spec_l1Poly_ev l) ?_
 cases h1 : isP l
 ·exact no
 ·simp only [if_true]
  refine Ev.bind (spec_l1Poly_ev m) ?_
  cases h2 : isP m
  ·exact no
  ·by_cases h3 : 0 < m.length
   ·obtain ⟨p, rfl, hp, hpl, _⟩ := isP_up h1
    obtain ⟨q, rfl, hq, hql, _⟩ := isP_up h2
    rw [Poly.up_length] at h3
    have z0 : (((q.length : Nat) : Int) == 0) = false := beq_eq_false_iff_ne.2 (by omega)
    have z1 : ([] : List Int).length + (Poly.up p).length < 17592186044416 := by rw [Poly.up_length]; simp; omega
    have z2 : (0 : Int) ≤ (p.length : Int) := by omega
    have z3 : (p.length : Int).toNat ≤ 35184372088832 := by omega
    have z4 : (0 : Int) ≤ ((q.length - 1 : Nat) : Int) := by omega
    have z5 : ((q.length - 1 : Nat) : Int) < (q.length : Int) := by omega
    have e2 : wrap64 ((q.length : Int) - 1) = ((q.length - 1 : Nat) : Int) := by rw [wrap_id (by omega) (by omega)]; omega
    simp only [if_true, Bool.and_self, Poly.up_length, h3, decide_true, toNat_up, z0]
    refine Ev.step (f := fun r => spec_DivPoly.l0 r (Poly.up q) (Poly.up p) (Poly.up (List.replicate p.length 0)) ((q.getD (q.length - 1) 0 : Nat) : Int) (wrap64 ((p.length : Int) - (q.length : Int)))) (fun r => ?_) ?_
    ·rw [spec_DivPoly.j0.eq_2, if_neg (by decide), Option.bind_some, if_pos z1, Poly.up_length, if_pos z2, if_pos z3, Poly.up_length, e2, if_pos z4, if_pos z5, Poly.rd_up, List.nil_append, Int.toNat_natCast, Poly.up_zeros]
    ·have hsm := div_same p q h3
     rw [← hsm.1, ← hsm.2]
     unfold divS
     by_cases h4 : q.length ≤ p.length + 1
     ·have e3 : wrap64 ((p.length : Int) - (q.length : Int)) = ((p.length + 1 - q.length : Nat) : Int) - 1 := by rw [wrap_id (by omega) (by omega)]; omega
      rw [e3]
      exact spec_DivPoly_l q hq h3 (by omega) (p.length + 1 - q.length) _ p (Poly.AllB.zeros _) hp (by rw [List.length_replicate]; omega) (by omega) (by rw [List.length_replicate]; omega) (by omega)
     ·have e4 : p.length + 1 - q.length = 0 := by omega
      rw [e4]
      have z6 : ¬ (wrap64 ((p.length : Int) - (q.length : Int)) ≥ 0) := by rw [wrap_id (by omega) (by omega)]; omega
      refine Ev.step (fun k => spec_DivPoly.l0.eq_2 _ _ _ _ _ k) ?_
      simp only [if_neg z6]
      exact Ev.bind (spec_l1Cut_ev _ (by rw [List.length_replicate]; omega)) (Ev.bind (spec_l1Cut_ev p (by omega)) (Ev.now _))
   ·have z0 : (((m.length : Nat) : Int) == 0) = true := by rw [beq_iff_eq]; omega
    simp only [if_true, z0, h3, decide_false, Bool.and_false]
    exact no

def wEncOk (m : List Int) (w : Int) : Bool := isW w && (decide (1 ≤ m.length ∧ (m.length : Int) + 2 * w ≤ 24) && m.all isB)
/-- What EncodeWord answers. -/
def wEncV (m : List Int) (w : Int) : List Int × Bool := if wEncOk m w then (Poly.up (Enc.encL (m.map Int.toNat) w.toNat), true) else ([], false)
theorem wEncOk_up {l : List Int} {w : Int} (h : wEncOk l w = true) : ∃ (m : List Nat) (n : Nat), l = Poly.up m ∧ w = (n : Int) ∧ Poly.AllB m ∧ 1 ≤ n ∧ n ≤ 3 ∧ 1 ≤ m.length ∧ m.length + 2 * n ≤ 24 := by
 unfold wEncOk at h
 simp only [Bool.and_eq_true, decide_eq_true_eq] at h
 obtain ⟨h1, ⟨h2, h3⟩, h4⟩ := h
 obtain ⟨n, rfl, hn1, hn3⟩ := isW_nat h1
 obtain ⟨m, rfl, hm⟩ := allB_up h4
 rw [Poly.up_length] at h2 h3
 exact ⟨m, n, rfl, rfl, hm, hn1, hn3, h2, by omega⟩
theorem up_wEncOk {m : List Nat} {n : Nat} (hm : Poly.AllB m) (h1 : 1 ≤ n) (h3 : n ≤ 3) (h4 : 1 ≤ m.length) (h5 : m.length + 2 * n ≤ 24) : wEncOk (Poly.up m) (n : Int) = true := by
 unfold wEncOk isW
 rw [up_allB hm, Poly.up_length, decide_eq_true (by omega), decide_eq_true (by omega)]; rfl
theorem wEncV_up {m : List Nat} {n : Nat} (h : wEncOk (Poly.up m) (n : Int) = true) : wEncV (Poly.up m) (n : Int) = (Poly.up (Enc.encL m n), true) := by
 unfold wEncV
 rw [if_pos h, toNat_up, Int.toNat_natCast]
theorem wEncV_length (m : List Int) (w : Int) : (wEncV m w).1.length ≤ 24 := by
 unfold wEncV
 split
 ·rename_i h
  obtain ⟨x, n, rfl, rfl, hx, h1, h3, h4, h5⟩ := wEncOk_up h
  rw [toNat_up, Int.toNat_natCast, Poly.up_length, Enc.encL_length hx]; omega
 ·simp

theorem rst_divI (m : List Nat) (n : Nat) : Poly.tr (divI (List.replicate (2 * n) 0 ++ m) (Poly.gen n)).2 = Enc.rst m n := by
 unfold divI Enc.rst
 rw [Enc.dvA_rs]
theorem rst_divS {m : List Nat} (hm : Poly.AllB m) (n : Nat) (h : 2 * n + m.length ≤ 39) :
  (divPV (Poly.up (Poly.tr (List.replicate (2 * n) 0 ++ m))) (Poly.up (Poly.gen n))).2.1 = Poly.up (Enc.rst m n) := by
 obtain ⟨g1, g2⟩ := Enc.gen_top n
 have hl := Poly.tr_length (List.replicate (2 * n) 0 ++ m)
 rw [List.length_append, List.length_replicate] at hl
 have h1 : isP (Poly.up (Poly.tr (List.replicate (2 * n) 0 ++ m))) = true := up_isP (Poly.tr_bytes (Enc.zm_Bs hm n)) (by omega) (Pev.tr_last _)
 have h2 : isP (Poly.up (Poly.gen n)) = true := up_isP (Poly.gen_bytes n) (by rw [g1]; omega) (.inr g2)
 unfold divPV
 rw [h1, h2, decide_eq_true (show 0 < (Poly.up (Poly.gen n)).length by rw [Poly.up_length]; omega), toNat_up, toNat_up]
 show Poly.up (Poly.tr (divI (Poly.tr (List.replicate (2 * n) 0 ++ m)) (Poly.gen n)).2) = _
 unfold divI Enc.rst
 rw [Enc.dvA_rs, Enc.rs_cut _ (by omega)]
theorem encL_drop_rst (m : List Nat) (n : Nat) : Enc.rst m n ++ (List.replicate (2 * n) 0 ++ m).drop (Enc.rst m n).length = Enc.encL m n ∨ 2 * n < (Enc.rst m n).length := by
 by_cases h : 2 * n < (Enc.rst m n).length
 ·exact .inr h
 ·refine .inl ?_
  unfold Enc.encL
  rw [List.drop_append_of_le_length (by rw [List.length_replicate]; omega), List.drop_replicate, List.append_assoc]

theorem spec_EncodeWord_l0 (out rest : List Nat) (h : rest.length ≤ out.length) (hb : out.length ≤ 1000) : ∀ d i : Nat, i + d = rest.length → Ev (fun k => spec_EncodeWord.l0 k (Poly.up (rest.take i ++ out.drop i)) (Poly.up rest) ((Poly.up rest).length : Int) (i : Int)) (Poly.up (rest ++ out.drop rest.length), true) := by
 intro d
 induction d with
 | zero =>
  intro i hi
  obtain rfl : i = rest.length := by omega
  rw [List.take_length]
  exact Ev.step (f := fun _ => some (Poly.up (rest ++ out.drop rest.length), true)) (fun k => by rw [spec_EncodeWord.l0.eq_2, if_neg (by rw [Poly.up_length]; omega)]) (Ev.now _)
 | succ d ih =>
  intro i hi
  have hl : (rest.take i ++ out.drop i).length = out.length := by rw [List.length_append, List.length_take, List.length_drop]; omega
  have hir : i < rest.length := by omega
  have hs : (rest.take i ++ out.drop i).set i (rest.getD i 0) = rest.take (i + 1) ++ out.drop (i + 1) := by
   rw [List.set_append_right _ _ (by rw [List.length_take]; omega), List.length_take, show i - min i rest.length = 0 by omega, List.drop_eq_getElem_cons (show i < out.length by omega), List.set_cons_zero,
    List.take_succ_eq_append_getElem hir, List.append_assoc, List.getD_eq_getElem?_getD, List.getElem?_eq_getElem hir]; rfl
  refine Ev.step (f := fun k => spec_EncodeWord.l0 k (Poly.up (rest.take (i + 1) ++ out.drop (i + 1))) (Poly.up rest) ((Poly.up rest).length : Int) ((i + 1 : Nat) : Int)) (fun k => ?_) (ih (i + 1) (by omega))
  rw [spec_EncodeWord.l0.eq_2, if_pos (by rw [Poly.up_length]; omega), if_pos (by omega), if_pos (by rw [Poly.up_length]; omega), if_pos (by rw [Poly.up_length, hl]; omega), Poly.rd_up, Int.toNat_natCast, Poly.up_set, hs, wrap_succ i (by omega)]
theorem spec_EncodeWord_ev (l : List Int) (w : Int) (hl : l.length ≤ 1048576) : Ev (fun k => spec_EncodeWord.f k l w) (wEncV l w) := by
 have J1 : Ev (fun k => spec_EncodeWord.j0 k l w true) (([] : List Int), false) := Ev.step (f := fun _ => some (([] : List Int), false)) (fun k => by rw [spec_EncodeWord.j0.eq_2, if_pos rfl]) (Ev.now _)
 unfold spec_EncodeWord.f wEncV wEncOk
 simp only [spec_l4Wrong_eq, spec_l1In_eq, Option.bind_some]
 cases h1 : isW w with
 | false =>
  simp only [Bool.false_eq_true, if_false, Bool.false_and]
  exact J1
 | true =>
  obtain ⟨n, rfl, h2, h3⟩ := isW_nat h1
  have e : wrap64 (24 - wrap64 (2 * (n : Int))) = 24 - 2 * (n : Int) := by
   rw [wrap_id (n := 2 * (n : Int)) (by omega) (by omega), wrap_id (by omega) (by omega)]
  have e2 : decide ((1 : Int) ≤ (l.length : Int) ∧ (l.length : Int) ≤ wrap64 (24 - wrap64 (2 * (n : Int)))) = decide (1 ≤ l.length ∧ (l.length : Int) + 2 * (n : Int) ≤ 24) := by
   rw [e]; exact decide_eq_decide.2 (by omega)
  simp only [if_true, e2, Bool.true_and]
  cases h4 : decide (1 ≤ l.length ∧ (l.length : Int) + 2 * (n : Int) ≤ 24) with
  | false =>
   simp only [Bool.false_eq_true, if_false, Bool.false_and]
   exact J1
  | true =>
   rw [decide_eq_true_eq] at h4
   simp only [if_true, Bool.true_and]
   refine Ev.bind (spec_l1All_ev l (by omega)) ?_
   cases h5 : l.all isB with
   | false =>
    simp only [Bool.not_false, Bool.false_eq_true, if_false]
    exact J1
   | true =>
    obtain ⟨m, rfl, hm⟩ := allB_up h5
    simp only [Bool.not_true, if_true]
    rw [Poly.up_length] at h4
    rw [toNat_up, Int.toNat_natCast]
    have ew : wrap64 (2 * (n : Int)) = ((2 * n : Nat) : Int) := by rw [wrap_id (by omega) (by omega)]; omega
    have hrl := Enc.rst_length hm n
    have e9 := (encL_drop_rst m n).resolve_right (by omega)
    have H0 := spec_EncodeWord_l0 (List.replicate (2 * n) 0 ++ m) (Enc.rst m n) (by rw [List.length_append, List.length_replicate]; omega) (by rw [List.length_append, List.length_replicate]; omega) (Enc.rst m n).length 0 (by omega)
    rw [List.take_zero, List.drop_zero, List.nil_append, e9] at H0
    refine Ev.step (f := fun k => (spec_l1Cut.f k (Poly.up (List.replicate (2 * n) 0 ++ m))).bind fun t219 => (spec_l4Generator.f k (n : Int)).bind fun t222 => (spec_DivPoly.f k t219 t222).bind fun bt225 => spec_EncodeWord.l0 k (Poly.up (List.replicate (2 * n) 0 ++ m)) bt225.2.1 (bt225.2.1.length : Int) 0) (fun k => ?_) ?_
    ·rw [spec_EncodeWord.j0.eq_2, if_neg (by decide), ew, if_pos (by omega), if_pos (by omega), Option.bind_some, Int.toNat_natCast, if_pos (by rw [List.length_replicate, Poly.up_length]; omega), Option.bind_some, Poly.up_zeros, Poly.up_append]
    ·refine Ev.bind (spec_l1Cut_ev _ (by rw [List.length_append, List.length_replicate]; omega)) ?_
     refine Ev.bind (spec_l4Generator_ev n (by omega)) ?_
     refine Ev.bind (spec_DivPoly_ev _ _) ?_
     rw [rst_divS hm n (by omega)]
     exact H0

theorem wordV_up {m : List Nat} {n : Nat} (h : isLg (Poly.up m) (n : Int) = true) : wordV (Poly.up m) (n : Int) = (Enc.zer (Enc.syl m (2 * n)), true) := by
 unfold wordV
 rw [if_pos h, toNat_up, Int.toNat_natCast, synL_syl, zeroL_zer]
theorem difL_difs : ∀ (a b : List Nat) (i : Nat), a.length = b.length → difL i (Poly.up a) (Poly.up b) = (Enc.difs a b).map fun j => ((i + j : Nat) : Int)
 | [], [], _, _ => rfl
 | [], _ :: _, _, h => by cases h
 | _ :: _, [], _, h => by cases h
 | x :: a, y :: b, i, h => by
  have ih := difL_difs a b (i + 1) (by simpa using h)
  have e2 : Enc.difs (x :: a) (y :: b) = (if (x != y) = true then [0] else []) ++ (Enc.difs a b).map Nat.succ := by
   unfold Enc.difs
   rw [List.length_cons, List.range_succ_eq_map, List.filter_cons, List.filter_map]
   cases hxy : (x != y) <;> simp [hxy, Function.comp_def]
  have e3 : ((fun j => ((i + j : Nat) : Int)) ∘ Nat.succ) = fun j => ((i + 1 + j : Nat) : Int) := by
   funext j; show ((i + (j + 1) : Nat) : Int) = _; congr 1; omega
  show (if (x : Int) = (y : Int) then difL (i + 1) (Poly.up a) (Poly.up b) else (i : Int) :: difL (i + 1) (Poly.up a) (Poly.up b)) = _
  rw [ih, e2, List.map_append, List.map_map, e3]
  by_cases hxy : x = y
  ·subst hxy; simp
  ·rw [if_neg (by omega)]
   have : (x != y) = true := by rw [bne_iff_ne]; exact hxy
   rw [if_pos this]; simp

/-- A message's word is one, as long as said, with the message behind. -/
theorem enc_word {l : List Int} {w : Int} (h : wEncOk l w = true) : wordV (wEncV l w).1 w = (true, true) ∧ ((wEncV l w).1.length : Int) = l.length + 2 * w ∧ (wEncV l w).1.drop (2 * w.toNat) = l := by
 obtain ⟨x, n, rfl, rfl, hx, h1, h3, h4, h5⟩ := wEncOk_up h
 rw [wEncV_up h]
 have hl := Enc.encL_length hx n
 have hB := Enc.encL_Bs hx n
 refine ⟨?_, ?_, ?_⟩
 ·show wordV (Poly.up (Enc.encL x n)) (n : Int) = _
  rw [wordV_up (up_isLg hB h1 h3 (by omega) (by omega)), (Enc.zer_syl).2 fun k hk => Enc.encL_eval hx hk]
 ·show ((Poly.up (Enc.encL x n)).length : Int) = _
  rw [Poly.up_length, Poly.up_length, hl]; omega
 ·show (Poly.up (Enc.encL x n)).drop _ = _
  rw [Int.toNat_natCast, Poly.up_drop, Enc.encL_drop hx]
theorem wordV_true {l : List Int} {w : Int} (h : wordV l w = (true, true)) : ∃ (m : List Nat) (n : Nat), l = Poly.up m ∧ w = (n : Int) ∧ Poly.AllB m ∧ 1 ≤ n ∧ n ≤ 3 ∧ 2 * n < m.length ∧ m.length ≤ 24 ∧ ∀ k, k < 2 * n → Root.pe m (Gf.pw 2 k) = 0 := by
 have hg : isLg l w = true := by
  unfold wordV at h
  split at h
  ·assumption
  ·cases h
 obtain ⟨m, n, rfl, rfl, hm, h1, h3, h4, h5⟩ := isLg_up hg
 rw [wordV_up hg] at h
 injection h with h _
 exact ⟨m, n, rfl, rfl, hm, h1, h3, h4, h5, Enc.zer_syl.1 h⟩
theorem placesV_up {a b : List Nat} (hl : a.length = b.length) (h : a.length ≤ 24) : placesV (Poly.up a) (Poly.up b) = ((Enc.difs a b).map (fun j => ((0 + j : Nat) : Int)), true) := by
 unfold placesV
 rw [if_pos (by rw [Poly.up_length, Poly.up_length]; exact ⟨hl, h⟩), difL_difs a b 0 hl]
theorem spec_l1Cur_spoiltWord_l0 {s : List Int} (hs : BY s) (t : Int) : ∀ (n : Nat) (l : List Int) (a d : Int), n ≤ 100 → 0 < l.length → 0 ≤ a → a ≤ 800000000000 - 4 * n →
  ∃ v a' d', Ev (fun k => spec_l1Cur_spoiltWord.l0 k t l (n : Int) s a d) (v, t, a', d') ∧ v.length = l.length ∧ 0 ≤ a' ∧ a' ≤ a + 4 * n := by
 intro n
 induction n with
 | zero =>
  intro l a d _ _ ha _
  exact ⟨l, a, d, Ev.step (f := fun _ => some (l, t, a, d)) (fun k => by rw [spec_l1Cur_spoiltWord.l0.eq_2, if_neg (by omega)]) (Ev.now _), rfl, ha, by omega⟩
 | succ n ih =>
  intro l a d hn hl ha hb
  obtain ⟨x, a1, d1, e1, h2, h3, h4, h5, h6⟩ := spec_l1Cur_pick_ex hs d (l.length : Int) ha (by omega)
  obtain ⟨y, a2, d2, e2, g2, g3, g4, g5, g6⟩ := spec_l1Cur_pick_ex hs d1 256 h5 (by omega)
  obtain ⟨v, a3, d3, E, q1, q3, q4⟩ := ih (l.set x.toNat y) a2 d2 (by omega) (by rw [List.length_set]; exact hl) g5 (by omega)
  refine ⟨v, a3, d3, ?_, by rw [q1, List.length_set], q3, by omega⟩
  refine Ev.step (f := fun k => spec_l1Cur_spoiltWord.l0 k t (l.set x.toNat y) (n : Int) s a2 d2) (fun k => ?_) E
  have ew : wrap64 (((n + 1 : Nat) : Int) - 1) = (n : Int) := by rw [wrap_in (by omega) (by omega)]; omega
  rw [spec_l1Cur_spoiltWord.l0.eq_2, if_pos (by omega), e1, Option.bind_some]
  simp only [e2, Option.bind_some]
  rw [if_pos h2, if_pos (by omega), ew]
theorem spec_l1Cur_spoiltWord_ex {s : List Int} (hs : BY s) {a : Int} (d : Int) (ha : 0 ≤ a) (hb : a ≤ 600000000000) :
  ∃ v t a' d', Ev (fun k => spec_l1Cur_spoiltWord.f k s a d) (v, t, a', d') ∧ v.length ≤ 24 ∧ 0 ≤ a' ∧ a' ≤ a + 1000 := by
 obtain ⟨w, a1, d1, e1, h2, h3, h4, h5, h6⟩ := spec_l1Cur_pick_ex hs d 3 ha (by omega)
 obtain ⟨x, a2, d2, e2, g2, g3, g4, g5, g6⟩ := spec_l1Cur_pick_ex hs d1 8 h5 (by omega)
 obtain ⟨n, rfl⟩ := nat_of g2
 obtain ⟨t, rfl⟩ := nat_of h2
 have ew : wrap64 (1 + (n : Int)) = ((1 + n : Nat) : Int) := by rw [wrap_in (by omega) (by omega)]; omega
 have et : wrap64 (1 + (t : Int)) = ((1 + t : Nat) : Int) := by rw [wrap_in (by omega) (by omega)]; omega
 have et2 : wrap64 (((1 + t : Nat) : Int) + 2) = ((3 + t : Nat) : Int) := by rw [wrap_in (by omega) (by omega)]; omega
 obtain ⟨m, a3, d3, E3, k1, k2, k3, k4⟩ := spec_l1Cur_elements_ex hs d2 (1 + n) (by omega) g5 (by omega)
 have hok : wEncOk m ((1 + t : Nat) : Int) = true := by
  obtain ⟨z, rfl, hz⟩ := allB_up k2
  rw [Poly.up_length] at k1
  exact up_wEncOk hz (by omega) (by omega) (by omega) (by omega)
 have E4 := spec_EncodeWord_ev m ((1 + t : Nat) : Int) (by omega)
 have hlen := wEncV_length m ((1 + t : Nat) : Int)
 have hpos : 0 < (wEncV m ((1 + t : Nat) : Int)).1.length := by have := (enc_word hok).2.1; omega
 have htr : (wEncV m ((1 + t : Nat) : Int)).2 = true := by unfold wEncV; rw [if_pos hok]
 obtain ⟨y, a5, d5, e5, j2, j3, j4, j5, j6⟩ := spec_l1Cur_pick_ex hs d3 ((3 + t : Nat) : Int) k3 (by omega)
 obtain ⟨q, rfl⟩ := nat_of j2
 obtain ⟨v, a6, d6, E6, q1, q2, q3⟩ := spec_l1Cur_spoiltWord_l0 hs ((1 + t : Nat) : Int) q (wEncV m ((1 + t : Nat) : Int)).1 a5 d5 (by omega) hpos j5 (by omega)
 refine ⟨v, ((1 + t : Nat) : Int), a6, d6, ?_, by omega, q2, by omega⟩
 unfold spec_l1Cur_spoiltWord.f
 simp only [e1, e2, Option.bind_some, ew, et]
 refine Ev.bind E3 ?_
 refine Ev.bind E4 ?_
 simp only [htr, if_true, et2, e5, Option.bind_some]
 exact E6

theorem spec_DrawSyndromesOf_ex {s : List Int} (hs : BY s) : ∃ v t, Ev (fun k => spec_DrawSyndromesOf.f k s) (v, t) ∧ v.length ≤ 24 := by
 obtain ⟨v, t, a2, d2, E2, g1, g2, g3⟩ := spec_l1Cur_spoiltWord_ex hs (a := 0) 0 (by omega) (by omega)
 exact ⟨v, t, Ev.bind E2 (Ev.now _), g1⟩

theorem spec_DrawDecodeWord_ex {s : List Int} (hs : BY s) : ∃ v t, Ev (fun k => spec_DrawDecodeWord.f k s) (v, t) ∧ v.length ≤ 24 := by
 obtain ⟨v, t, E, h⟩ := spec_DrawSyndromesOf_ex hs
 exact ⟨v, t, Ev.bind E (Ev.now _), h⟩

def T_fw16 : Bool × List (List Nat × List Nat) := (true, [([], []), ([0], [0]), ([], []), ([], []), ([2, 3], [2, 3]), ([4], [4]), ([5], [5]), ([], []), ([7], [7]), ([6, 8], [6, 8]), ([1, 9], [1, 9]), ([], []), ([11], [11]), ([10, 12], [10, 12]), ([13, 1, 0, 1, 2, 3, 4, 5, 6, 7, 8, 9, 10, 11, 12, 13], [13])])
def B_fw16 : List Nat := [0, 1, 0, 0, 12, 28, 60, 0, 128, 508, 1023, 0, 2048, 8191, 16383]
theorem tab_fw16 : rtab .any (opsOf Try.f10 16) = T_fw16 := by kernel_rfl
theorem bits_fw16 : waitsOk T_fw16.2 B_fw16 = true := by kernel_rfl

theorem infoJ : (Try.prog.info? 3).map (fun i => (i.zero, i.size, i.bytes)) = some (some (.int .i64 0), 1, 8) := by kernel_rfl

def impl_EncodeWord.f (l : List Int) (a : Int) : Option (List Int × Bool) := if l.length ≤ 1048576 then some (wEncV l a) else none
theorem impl_EncodeWord_ev (l : List Int) (a : Int) (h : l.length ≤ 1048576) : impl_EncodeWord.f l a = some (wEncV l a) := if_pos h
set_option maxHeartbeats 4000000 in
set_option maxRecDepth 100000 in
theorem impl_EncodeWord.calls (A0 : Option Addr) (c0 : Nat) (l0 : List Int) (a1 : Int) (r1 : List Int) (r2 : Bool) (w : World) (hr0 : (Kd.int .i64).C w A0 l0.length l0) (hc0 : l0.length ≤ c0) (h : impl_EncodeWord.f l0 a1 = some (r1, r2)) :
  Calls Try.prog 73 #[.slice A0 l0.length c0, .int .i64 a1] w fun e w' => ∃ v0_ : Value, e = .returned (.tuple #[v0_, .bool r2]) ∧ (Kd.int .i64).R 3 w' w.heap.size (fun _ => True) v0_ r1 ∧ Below w.heap.size w w' := by
 have HR := Aside0.mk hr0
 have HC := Aside0.mk hc0
 have HB := Aside0.mk (Below.refl w.heap.size w)
 clear hr0 hc0
 unfold impl_EncodeWord.f at h
 split at h
 rotate_left
 ·cases h
 rename_i hsz
 have H0 := Option.some.inj h
 clear h
 have no : wEncOk l0 a1 = false → r1 = [] ∧ r2 = false := fun hx => by
  unfold wEncV at H0
  rw [hx] at H0
  injection H0 with e1 e2
  exact ⟨e1.symm, e2.symm⟩
 have hW := impl_isWrong_eq a1
 have hG := impl_areGf_eq l0
 cases g1 : isW a1 with
 | false =>
  obtain ⟨rfl, rfl⟩ := no (by unfold wEncOk; rw [g1]; rfl)
  rw [g1] at hW
  have H1 := Aside0.mk hW
  clear hW hG g1 no H0 hsz
  go_enter Try.func73, Try.ntmps73
  go_wp2_with (go_at_call 149; refine (impl_isWrong.calls a1 false _ H1.out).mono ?_; rintro e w' ⟨rfl, ⟨nd, rfl⟩⟩)
  go_ret2
  exact ⟨_, rfl, Kd.R_nil _ _ _ _ _, pw_below_drewN HB.out _⟩
 | true =>
  obtain ⟨n, rfl, h1, h3⟩ := isW_nat g1
  rw [g1] at hW
  have H1 := Aside0.mk hW
  have y0 : (0 : Int) ≤ (n : Int) := by omega
  have y1 : (n : Int) ≤ 3 := by omega
  by_cases c1 : l0.length < 1
  ·obtain ⟨rfl, rfl⟩ := no (by unfold wEncOk; rw [g1, decide_eq_false (by omega)]; rfl)
   obtain rfl : l0 = [] := List.length_eq_zero_iff.1 (by omega)
   clear hW hG g1 no H0 hsz c1
   go_enter Try.func73, Try.ntmps73
   go_wp2_with (go_at_call 149; refine (impl_isWrong.calls (n : Int) true _ H1.out).mono ?_; rintro e w' ⟨rfl, ⟨nd, rfl⟩⟩)
   go_ret2
   exact ⟨_, rfl, Kd.R_nil _ _ _ _ _, pw_below_drewN HB.out _⟩
  have p1 : (l0.length < 1) = False := eq_false c1
  have p2 : ((l0.length : Int) < 1) = False := eq_false (by omega)
  have p3 : (l0.length = 0) = False := eq_false (by omega)
  have z0 : (l0.length : Int) ≤ 1048576 := by omega
  by_cases c2 : 24 < (l0.length : Int) + 2 * (n : Int)
  ·obtain ⟨rfl, rfl⟩ := no (by unfold wEncOk; rw [g1, decide_eq_false (by omega)]; rfl)
   have p4 : (24 < (l0.length : Int) + 2 * (n : Int)) = True := eq_true c2
   clear hW hG g1 no H0 hsz c1 c2
   go_enter Try.func73, Try.ntmps73
   go_wp2_with (go_at_call 149; refine (impl_isWrong.calls (n : Int) true _ H1.out).mono ?_; rintro e w' ⟨rfl, ⟨nd, rfl⟩⟩)
   go_ret2
   exact ⟨_, rfl, Kd.R_nil _ _ _ _ _, pw_below_drewN HB.out _⟩
  have p4 : (24 < (l0.length : Int) + 2 * (n : Int)) = False := eq_false c2
  cases g3 : l0.all isB with
  | false =>
   obtain ⟨rfl, rfl⟩ := no (by unfold wEncOk; rw [g1, g3, Bool.and_false, Bool.and_false])
   rw [g3] at hG
   have H2 := Aside0.mk hG
   clear hW hG g1 no H0 hsz c1 c2 g3
   go_enter Try.func73, Try.ntmps73
   go_wp2_with (first | (go_at_call 149; refine (impl_isWrong.calls (n : Int) true _ H1.out).mono ?_; rintro e w' ⟨rfl, ⟨nd, rfl⟩⟩) | (go_at_call 88; refine (impl_areGf.calls A0 c0 l0 false _ (Kd.C_drewN HR.out _) HC.out H2.out).mono ?_; rintro e w' ⟨rfl, ⟨nd3, rfl⟩⟩))
   go_ret2
   exact ⟨_, rfl, Kd.R_nil _ _ _ _ _, pw_below_drewN HB.out _⟩
  | true =>
   obtain ⟨m, rfl, hm⟩ := allB_up g3
   have hml := Poly.up_length m
   have hok : wEncOk (Poly.up m) (n : Int) = true := by unfold wEncOk; rw [g1, g3, decide_eq_true (by omega)]; rfl
   rw [wEncV_up hok] at H0
   injection H0 with e1 e2
   subst e1 e2
   rw [g3] at hG
   have H2 := Aside0.mk hG
   have hzl : (List.replicate (2 * n) 0 ++ m).length = 2 * n + m.length := by rw [List.length_append, List.length_replicate]
   obtain ⟨K3, h3'⟩ := (impl_generator_ev n (by omega)).rounds
   have hgt := Enc.gen_top n
   obtain ⟨K4, h4⟩ := (impl_divPoly_ev (List.replicate (2 * n) 0 ++ m) (Poly.gen n) (Enc.zm_Bs hm n) (Poly.gen_bytes n) (by omega) (by omega) (by omega)).rounds
   rw [rst_divI] at h4
   generalize Poly.up (Poly.tr (divI (List.replicate (2 * n) 0 ++ m) (Poly.gen n)).1) = Q at h4
   have H3 := Aside0.mk h3'
   have H4 := Aside0.mk h4
   have hrl := Enc.rst_length hm n
   have HE := Aside0.mk (show Poly.up (Enc.rst m n) ++ (Poly.up (List.replicate (2 * n) 0 ++ m)).drop (Enc.rst m n).length = Poly.up (Enc.encL m n) from by
    rw [Poly.up_drop, Poly.up_append, (encL_drop_rst m n).resolve_right (by omega)])
   have HZ := Aside0.mk (show List.replicate (2 * (n : Int)).toNat (0 : Int) ++ Poly.up m = Poly.up (List.replicate (2 * n) 0 ++ m) from by
    rw [show (2 * (n : Int)).toNat = 2 * n by omega, Poly.up_zeros, Poly.up_append])
   have HLN := Aside0.mk (show (Enc.rst m n).length ≤ 2 * n ∧ m.length ≤ 24 ∧ n ≤ 3 from ⟨hrl, by omega, h3⟩)
   clear hW hG g1 no hsz c1 c2 g3 hok h3' h4 hgt hrl hm hml
   go_enter Try.func73, Try.ntmps73
   have z1 : (0 : Int) ≤ 2 * (n : Int) := by omega
   go_wp2_with (first | (go_at_call 149; refine (impl_isWrong.calls (n : Int) true _ H1.out).mono ?_; rintro e w' ⟨rfl, ⟨nd, rfl⟩⟩) | (go_at_call 88; refine (impl_areGf.calls A0 c0 (Poly.up m) true _ (Kd.C_drewN HR.out _) HC.out H2.out).mono ?_; rintro e w' ⟨rfl, ⟨nd3, rfl⟩⟩) | ((with_reducible refine gate_dst (N := 32) rfl ?_); refine Kd.R_make (Kd.int .i64) _ 3 rfl (N := 32) rfl 23 _ _ rfl (2 * (n : Int)) rfl rfl Try.underlying23 (.int .i64 0) 8 infoJ rfl (by decide) (by omega) 0 (ok := fun _ => True) (okp := fun _ => True) rfl (fun _ hk => hk) trivial z1 (by have := HLN.out; omega) (Below.refl _ _) (Nat.le_refl _) ?_; intro v5 w5 ho5 hb5 hg5 hn5; have HO5 := Aside0.mk ho5; have HB5 := Aside0.mk hb5; clear ho5 hb5 hg5 hn5) | ((with_reducible refine gate_builtin (b := .append) (xs := #[.tmp 32, .tmp 33]) rfl ?_); at_builtin; refine Kd.R_append_rows (Kd.int .i64) (w0 := w) w.heap.size rfl (.tmp 32) (.tmp 33) 23 3 (.int .i64 0) 8 rfl Try.underlying23 infoJ rfl (by decide) (by omega) v5 (List.replicate (2 * (n : Int)).toNat 0) (Poly.up m) _ _ _ (fun _ => True) (fun _ => False) rfl rfl ?aO ?aR (fun _ _ h => h) (fun _ h => h.elim) ?aF ?aB ?aS ?aL ?_; (case aR => exact Kd.C_below HR.out (below_step (pw_below_drewN HB.out _) HB5.out)); (case aB => exact below_step (pw_below_drewN HB.out _) HB5.out); (case aF => exact (fun _ _ => trivial)); (case aO => exact Kd.R_lower HO5.out (below_size (pw_below_drewN HB.out _))); (case aS => exact below_size (below_step (pw_below_drewN HB.out _) HB5.out)); (case aL => rw [List.length_replicate, Poly.up_length]; have := HLN.out; omega); intro v6 w6 ho6 hb6 hg6 hat6; rw [HZ.out] at ho6; have HO6 := Aside0.mk ho6; have HB6 := Aside0.mk hb6; clear ho6 hb6 hg6 hat6; obtain ⟨A6, c6, eo6⟩ := Kd.R_slice HO6.out; subst eo6))
   refine (impl_generator.calls K3 (n : Int) (Poly.up (Poly.gen n)) _ H3.out).mono ?_
   rintro e w7 ⟨v7, rfl, ho7, hb7⟩
   obtain ⟨A7, c7, rfl, hc7, hC7⟩ := Kd.R_reads ho7
   have HO7 := Aside0.mk (Kd.R_below HO6.out hb7)
   have HB7 := Aside0.mk (below_step HB6.out hb7)
   have HC7 := Aside0.mk hC7
   have HN7 := Aside0.mk hc7
   clear ho7 hb7 hC7 hc7 HO6 HB6 HO5 HB5
   go_wp2_with fail
   have hq6 := Kd.R_reads' HO7.out
   refine (impl_divPoly.calls K4 A6 c6 (Poly.up (List.replicate (2 * n) 0 ++ m)) A7 c7 (Poly.up (Poly.gen n)) Q (Poly.up (Enc.rst m n)) _ hq6.2.2 hq6.2.1 HC7.out HN7.out H4.out).mono ?_
   clear hq6
   rintro e w8 ⟨v8, v9, rfl, ho8, ho9, hb8⟩
   obtain ⟨A9, c9, rfl, hc9, hC9⟩ := Kd.R_reads ho9
   have HO8 := Aside0.mk (Kd.R_below HO7.out hb8)
   have HB8 := Aside0.mk (below_step HB7.out hb8)
   have HC9 := Aside0.mk hC9
   have HI := Aside0.mk (show (Try.prog.info? 3).map (·.size) = some 1 from by kernel_rfl)
   clear ho8 ho9 hb8 hc9 hC9 HO7 HB7 HC7 HN7
   go_wp2_with ((with_reducible refine gate_builtin (b := .copy) (xs := #[.tmp 42, .tmp 43]) rfl ?_); refine Kd.R_copy (0 : Int) (w0 := w) w.heap.size rfl (.tmp 42) (.tmp 43) 23 23 3 rfl Try.underlying23 HI.out (.slice A6 (Poly.up (List.replicate (2 * n) 0 ++ m)).length c6) (Poly.up (List.replicate (2 * n) 0 ++ m)) (Poly.up (Enc.rst m n)) A9 _ c9 (fun _ => True) rfl rfl HO8.out HC9.out HB8.out (below_size HB8.out) ?_; intro w10 ho10 hb10 hg10; have HO10 := Aside0.mk ho10; have HB10 := Aside0.mk hb10; clear ho10 hb10 hg10)
   go_ret2
   have h9 := HO10.out
   rw [Nat.min_eq_left (by rw [Poly.up_length, Poly.up_length, List.length_append, List.length_replicate]; have := HLN.out; omega), List.take_length, Poly.up_length (Enc.rst m n), HE.out] at h9
   exact ⟨_, rfl, h9, HB10.out⟩

/-- What DecodeWord answers. -/
def decV (l : List Int) (w : Int) : List Int × Int × Bool := if isLg l w then (match Dec.decL (l.map Int.toNat) w.toNat with
 | none => ([], 0, false)
 | some (o, n) => (Poly.up o, (n : Int), true)) else ([], 0, false)
theorem decV_up {m : List Nat} {n : Nat} (h : isLg (Poly.up m) (n : Int) = true) : decV (Poly.up m) (n : Int) = match Dec.decL m n with
 | none => ([], 0, false)
 | some (o, n) => (Poly.up o, (n : Int), true) := by
 unfold decV
 rw [if_pos h, toNat_up, Int.toNat_natCast]
/-- What has been decoded is a word. -/
theorem dec_word {l : List Int} {w : Int} (h : (decV l w).2.2 = true) : wordV (decV l w).1 w = (true, true) ∧ (decV l w).2.1 ≤ w ∧ (decV l w).1.length = l.length ∧ l.length ≤ 24 := by
 have hg : isLg l w = true := by
  unfold decV at h
  split at h
  ·assumption
  ·cases h
 obtain ⟨m, n, rfl, rfl, hm, h1, h3, h4, h5⟩ := isLg_up hg
 rw [decV_up hg] at h ⊢
 cases e : Dec.decL m n with
 | none => rw [e] at h; cases h
 | some p =>
  obtain ⟨o, k⟩ := p
  obtain ⟨q1, q2, q3, q4⟩ := Dec.decL_props hm e
  refine ⟨?_, by show (k : Int) ≤ (n : Int); omega, by show (Poly.up o).length = _; rw [Poly.up_length, Poly.up_length, q2], by rw [Poly.up_length]; exact h5⟩
  show wordV (Poly.up o) (n : Int) = _
  rw [wordV_up (up_isLg q1 h1 h3 (by omega) (by omega)), q4]
theorem decV_small (l : List Int) (w : Int) : (decV l w).1.length ≤ 24 := by
 cases h : (decV l w).2.2 with
 | true => have := dec_word h; omega
 | false =>
  unfold decV at h ⊢
  split
  ·rename_i hg
   rw [if_pos hg] at h
   cases e : Dec.decL (l.map Int.toNat) w.toNat with
   | none => simp
   | some p => rw [e] at h; cases h
  ·simp
/-- A word with few wrong places is found back. -/
theorem dec_back {a b : List Nat} {n : Nat} (h : wordV (Poly.up b) (n : Int) = (true, true)) (ha : Poly.AllB a) (hl : a.length = b.length) (hd : (Enc.difs a b).length ≤ n) :
  decV (Poly.up a) (n : Int) = (Poly.up b, ((Enc.difs a b).length : Int), true) ∧ placesV (Poly.up a) (Poly.up b) = ((Enc.difs a b).map (fun j => ((0 + j : Nat) : Int)), true) := by
 obtain ⟨m, k, e1, e2, hm, h1, h3, h4, h5, hz⟩ := wordV_true h
 have hbm : b = m := Poly.up_inj e1
 subst hbm
 have hkn : n = k := by omega
 subst hkn
 have hgl := up_isLg ha h1 h3 (by omega) (by omega)
 refine ⟨?_, placesV_up hl (by omega)⟩
 rw [decV_up hgl, Dec.dec_back ha hm hl (by omega) hz hd]

theorem decV_alt {m s c ps : List Nat} {n : Nat} (h : isLg (Poly.up m) (n : Int) = true) (hs : s = Enc.syl m (2 * n)) (hc : c = Bm.loc s) (hp : ps = Dec.plc c m.length) :
  decV (Poly.up m) (n : Int) = if Enc.zer s = true then (Poly.up m, 0, true) else if 1 ≤ ps.length ∧ ps.length + 1 = c.length ∧ ps.length ≤ n then (match Dec.chg s ps with
   | none => ([], 0, false)
   | some v => if Enc.zer (Enc.syl (Dec.fixL m ps v) (2 * n)) = true then (Poly.up (Dec.fixL m ps v), ((v.filter (· != 0)).length : Int), true) else ([], 0, false)) else ([], 0, false) := by
 subst hs hc hp
 rw [decV_up h]
 unfold Dec.decL
 by_cases h1 : Enc.zer (Enc.syl m (2 * n)) = true
 ·rw [if_pos h1, if_pos h1]; rfl
 ·rw [if_neg h1, if_neg h1]
  by_cases h2 : 1 ≤ (Dec.plc (Bm.loc (Enc.syl m (2 * n))) m.length).length ∧ (Dec.plc (Bm.loc (Enc.syl m (2 * n))) m.length).length + 1 = (Bm.loc (Enc.syl m (2 * n))).length ∧ (Dec.plc (Bm.loc (Enc.syl m (2 * n))) m.length).length ≤ n
  ·rw [if_pos h2, if_pos h2]
   cases Dec.chg (Enc.syl m (2 * n)) (Dec.plc (Bm.loc (Enc.syl m (2 * n))) m.length) with
   | none => rfl
   | some v =>
    rw [Option.bind_some]
    show (match (if Enc.zer (Enc.syl (Dec.fixL m (Dec.plc (Bm.loc (Enc.syl m (2 * n))) m.length) v) (2 * n)) = true then some (Dec.fixL m (Dec.plc (Bm.loc (Enc.syl m (2 * n))) m.length) v, (v.filter (· != 0)).length) else none) with
     | none => (([] : List Int), (0 : Int), false)
     | some (o, n) => (Poly.up o, (n : Int), true)) = if Enc.zer (Enc.syl (Dec.fixL m (Dec.plc (Bm.loc (Enc.syl m (2 * n))) m.length) v) (2 * n)) = true then (Poly.up (Dec.fixL m (Dec.plc (Bm.loc (Enc.syl m (2 * n))) m.length) v), ((v.filter (· != 0)).length : Int), true) else ([], 0, false)
    by_cases h3 : Enc.zer (Enc.syl (Dec.fixL m (Dec.plc (Bm.loc (Enc.syl m (2 * n))) m.length) v) (2 * n)) = true
    ·rw [if_pos h3, if_pos h3]
    ·rw [if_neg h3, if_neg h3]
  ·rw [if_neg h2, if_neg h2]
theorem decV_no {l : List Int} {w : Int} (h : isLg l w = false) : decV l w = ([], 0, false) := by unfold decV; rw [h]; rfl
/-- What is known of a decoder's parts. -/
theorem dec_parts {m : List Nat} (hm : Poly.AllB m) (n : Nat) (h3 : n ≤ 3) (hml : m.length ≤ 24) : Poly.AllB (Enc.syl m (2 * n)) ∧ (Enc.syl m (2 * n)).length = 2 * n ∧ Poly.AllB (Bm.loc (Enc.syl m (2 * n))) ∧ (Bm.loc (Enc.syl m (2 * n))).length ≤ 8 ∧ 1 ≤ (Bm.loc (Enc.syl m (2 * n))).length ∧
  (∀ p ∈ Dec.plc (Bm.loc (Enc.syl m (2 * n))) m.length, p < m.length) ∧ (Dec.plc (Bm.loc (Enc.syl m (2 * n))) m.length).Nodup ∧ (Dec.plc (Bm.loc (Enc.syl m (2 * n))) m.length).length ≤ 24 := by
 have h1 := Enc.syl_Bs hm (2 * n)
 have hl := Enc.syl_length m (2 * n)
 have h2 := Bm.loc_length h1
 have hh := Bm.loc_head h1
 refine ⟨h1, hl, Bm.loc_bytes h1, by omega, ?_, fun p hp => (Dec.mem_plc.1 hp).1, Dec.plc_nodup _ _, Nat.le_trans (Dec.plc_length _ _) hml⟩
 apply Nat.lt_of_not_le
 intro h0
 rw [Pev.getD_out (by omega)] at hh
 cases hh

def invV (l : List (List Int)) : List (List Int) × Bool := if goodM l && decide (l.length = (l.getD 0 []).length) then (match Mat.inv (dnM l) with
 | none => ([], false)
 | some s => (upM s, true)) else ([], false)
theorem inv_MB {n : Nat} {m t : List (List Nat)} (h : Mat.MB' n m) (hn : m.length = n) (ht : Mat.inv m = some t) : Mat.MB' n t ∧ t.length = n := by
 subst hn
 unfold Mat.inv at ht
 split at ht
 ·cases ht
 ·injection ht with ht
  subst ht
  exact ⟨Mat.sv2_MB _ _ _ h (Mat.idM_MB m.length) (Mat.idM_length _), Mat.sv2_length _ _ _ (Mat.idM_length _)⟩
def solveOk (l : List (List Int)) (v : List Int) : Bool := goodM l && (decide (l.length = (l.getD 0 []).length) && (decide (v.length = l.length) && v.all isB))
def solveV (l : List (List Int)) (v : List Int) : List Int × Bool := if solveOk l v then (match Mat.inv (dnM l) with
 | none => ([], false)
 | some s => (Poly.up (Mat.colM s (v.map Int.toNat)), true)) else ([], false)
theorem solveV_inv (l : List (List Int)) (v : List Int) : solveV l v = if (invV l).2 && (decide (v.length = l.length) && v.all isB) then (Poly.up (Mat.colM (dnM (invV l).1) (v.map Int.toNat)), true) else ([], false) := by
 unfold solveV solveOk invV
 cases goodM l <;> cases decide (l.length = (l.getD 0 []).length) <;> cases Mat.inv (dnM l) <;> simp [dnM_upM]
theorem invV_true {l : List (List Int)} (h : (invV l).2 = true) : ∃ (c : Nat) (m s : List (List Nat)), l = upM m ∧ Mat.MB' c m ∧ m.length = c ∧ 1 ≤ c ∧ c ≤ 8 ∧ Mat.inv m = some s ∧ invV l = (upM s, true) ∧ Mat.MB' c s ∧ s.length = c := by
 unfold invV at h ⊢
 split at h
 rotate_left
 ·cases h
 rename_i hg
 rw [if_pos hg]
 rw [Bool.and_eq_true, decide_eq_true_eq] at hg
 obtain ⟨c, m, rfl, hm, e1, e2, h1, h2, h3, h4⟩ := goodM_up hg.1
 have hc : m.length = c := by have := hg.2; rw [e1, upM_length] at this; exact this
 rw [dnM_upM] at h ⊢
 cases hi : Mat.inv m with
 | none => rw [hi] at h; cases h
 | some s => exact ⟨c, m, s, rfl, hm, hc, h3, h4, hi, rfl, inv_MB hm hc hi⟩

def fixW (m ps s : List Nat) : List Int × Bool := match Dec.chg s ps with
 | none => ([], false)
 | some v => (Poly.up (Dec.fixL m ps v), true)
def chgW (ps s : List Nat) : List Int × Bool := match Dec.chg s ps with
 | none => ([], false)
 | some v => (Poly.up v, true)
theorem solve_chg {ps s : List Nat} (h1 : 1 ≤ ps.length) (h8 : ps.length ≤ 8) (hs : Poly.AllB s) (hl : ps.length ≤ s.length) : solveV (upM (Dec.vm ps)) (Poly.up (s.take ps.length)) = chgW ps s := by
 have hv := Dec.vm_length ps
 have hg := up_goodM (Dec.vm_MB ps) (by omega) (by omega) h1 h8
 have e0 : ((upM (Dec.vm ps)).getD 0 []).length = ps.length := by rw [upM_getD, Poly.up_length]; exact ((Dec.vm_MB ps).get (by omega)).1
 have hok : solveOk (upM (Dec.vm ps)) (Poly.up (s.take ps.length)) = true := by
  unfold solveOk
  rw [hg, e0, upM_length, hv, decide_eq_true rfl, Poly.up_length, List.length_take, decide_eq_true (by omega), up_allB (hs.take _)]; rfl
 unfold solveV chgW Dec.chg
 rw [hok, if_pos rfl, dnM_upM, toNat_up]
 cases Mat.inv (Dec.vm ps) <;> rfl
theorem fixW_cases (m ps s : List Nat) : (Dec.chg s ps = none ∧ fixW m ps s = ([], false) ∧ chgW ps s = ([], false)) ∨ ∃ v, Dec.chg s ps = some v ∧ v.length = ps.length ∧ Poly.AllB v ∧ fixW m ps s = (Poly.up (Dec.fixL m ps v), true) ∧ chgW ps s = (Poly.up v, true) := by
 unfold fixW chgW
 cases h : Dec.chg s ps with
 | none => exact .inl ⟨rfl, rfl, rfl⟩
 | some v => exact .inr ⟨v, rfl, (Dec.chg_props h).1, (Dec.chg_props h).2, rfl, rfl⟩
theorem vmTo_succ (ps : List Nat) (k : Nat) : upM ((List.range k).map (Dec.vrow ps)) ++ [Poly.up (Dec.vrow ps k)] = upM ((List.range (k + 1)).map (Dec.vrow ps)) := by
 rw [upM_snoc, List.range_succ, List.map_append]; rfl
theorem vrow_snoc (ps : List Nat) (k : Nat) {j : Nat} (hj : j < ps.length) : Poly.up ((Dec.vrow ps k).take j) ++ [((Gf.pw 2 (ps.getD j 0 * k) : Nat) : Int)] = Poly.up ((Dec.vrow ps k).take (j + 1)) := by
 have hl : j < (Dec.vrow ps k).length := by rw [Dec.vrow_length]; exact hj
 have h0 : (Dec.vrow ps k)[j]? = some (Gf.pw 2 (ps.getD j 0 * k)) := by
  unfold Dec.vrow
  rw [List.getElem?_map, List.getElem?_eq_getElem hj, List.getD_eq_getElem?_getD, List.getElem?_eq_getElem hj]; rfl
 have e : (Dec.vrow ps k)[j] = Gf.pw 2 (ps.getD j 0 * k) := (List.getElem?_eq_some_iff.1 h0).2
 rw [Poly.up_snoc, List.take_succ_eq_append_getElem hl, e]

theorem set_same {α : Type} {l : List α} {j : Nat} {x : α} (h : l[j]? = some x) : l.set j x = l := by
 apply List.ext_getElem?
 intro i
 by_cases e : j = i
 ·subst e; rw [Env.set_at h, h]
 ·rw [List.getElem?_set_ne e]
set_option maxHeartbeats 4000000 in
theorem l2swap_e {w0 w : World} {L : List (Value × Env.It)} (E : Env.Env 23 3 w0 w L) (j : Nat) {A : Option Addr} {c : Nat} {m : List (List Nat)} (hj : L[j]? = some (.slice A m.length c, .mat (upM m))) {a b : Nat} (ha : a < m.length) (hb : b < m.length) :
  Calls Try.prog 172 #[.slice A m.length c, .int .i64 (a : Int), .int .i64 (b : Int)] w fun e w' => e = .returned (.tuple #[]) ∧ Env.Env 23 3 w0 w' (L.set j (.slice A m.length c, .mat (upM (Mat.swp m a b)))) := by
 obtain ⟨g, Aa, ca, Ab, cb, hA', hca, hfa, hcb, hfb, hsw⟩ := E.mswap (by decide) hj (a := a) (b := b) (by rw [upM_length]; exact ha) (by rw [upM_length]; exact hb)
 subst hA'
 rw [upM_getD] at hca
 rw [upM_getD] at hcb
 rw [upM_getD, upM_getD, upM_set, upM_set] at hsw
 have HSW := Aside0.mk (show Env.Env 23 3 w0 _ (L.set j (.slice (some ⟨g, 0, none⟩) m.length c, .mat (upM (Mat.swp m a b)))) from hsw)
 generalize m.getD a [] = ra at hca HSW
 generalize m.getD b [] = rb at hcb HSW
 have i1 : ((a : Int) < (m.length : Int)) = True := eq_true (by omega)
 have i2 : ((b : Int) < (m.length : Int)) = True := eq_true (by omega)
 have i3 : (0 ≤ (a : Int)) = True := eq_true (by omega)
 have i4 : (0 ≤ (b : Int)) = True := eq_true (by omega)
 have i5 : (a < m.length) = True := eq_true ha
 have i6 : (b < m.length) = True := eq_true hb
 have hcb2 : (w.setCell ⟨g, a, none⟩ (.slice Ab (Poly.up rb).length cb)).cell? ⟨g, b, none⟩ = some (.slice Ab (Poly.up rb).length cb) := Env.cell_both hcb
 clear hsw
 go_enter Try.func172, Try.ntmps172
 go_wp2
 refine bodyPost_end (results_none rfl _ _ _) rfl ?_
 exact ⟨rfl, HSW.out⟩
set_option maxHeartbeats 8000000 in
theorem l2scale_e {w0 w : World} {L : List (Value × Env.It)} (E : Env.Env 23 3 w0 w L) (j : Nat) {g c : Nat} {m : List (List Nat)} (hj : L[j]? = some (.slice (some ⟨g, 0, none⟩) m.length c, .mat (upM m))) {cc : Nat} (hm : Mat.MB' cc m) (hc : cc ≤ 100) {i : Nat} (hi : i < m.length) {gu cu : Nat} (hh : w.cell? ⟨g, i, none⟩ = some (.slice (some ⟨gu, 0, none⟩) cc cu)) (x : Nat) (hx : x < 256) :
  Calls Try.prog 173 #[.slice (some ⟨gu, 0, none⟩) cc cu, .int .i64 (x : Int)] w fun e w' => e = .returned (.tuple #[]) ∧ Env.Env 23 3 w0 w' (L.set j (.slice (some ⟨g, 0, none⟩) m.length c, .mat (upM (m.set i (Mat.rscale (Gf.gi x) (m.getD i [])))))) := by
 obtain ⟨R, hR⟩ : ∃ R, R = m.getD i [] := ⟨_, rfl⟩
 rw [← hR]
 have HRB := Aside0.mk (show R.length = cc ∧ Poly.AllB R from by rw [hR]; exact hm.get hi)
 have HSZ := Aside0.mk (show cc ≤ 100 ∧ x < 256 from ⟨hc, hx⟩)
 have HJ := Aside0.mk (show ∀ Z, (L.set j (.slice (some ⟨g, 0, none⟩) m.length c, .mat (upM Z)))[j]? = some (.slice (some ⟨g, 0, none⟩) m.length c, Env.It.mat (upM Z)) from fun Z => Env.set_at hj)
 have HE := Aside0.mk (show Env.Env 23 3 w0 w (L.set j (.slice (some ⟨g, 0, none⟩) m.length c, .mat (upM (m.set i (Mat.rscaleTo (Gf.gi x) R 0))))) from by rw [Mat.rscaleTo_zero, hR, Mat.set_self, set_same hj]; exact E)
 have HH := Aside0.mk hh
 have HIL := Aside0.mk hi
 clear E hR hm hc hx hj hh hi
 go_enter Try.func173, Try.ntmps173
 go_wp2
 go_loopg [8] cc (fun gg s8 wq => ∃ q : Nat, q ≤ cc ∧ cc - q ≤ gg ∧ s8 = .int .i64 q ∧ Aside0 (Env.Env 23 3 w0 wq (L.set j (.slice (some ⟨g, 0, none⟩) m.length c, .mat (upM (m.set i (Mat.rscaleTo (Gf.gi x) R q)))))) ∧ Aside0 (wq.cell? ⟨g, i, none⟩ = some (.slice (some ⟨gu, 0, none⟩) cc cu)))
 case atStart => exact ⟨0, Nat.zero_le _, by omega, rfl, HE, HH⟩
 case round =>
  clear HE HH
  obtain ⟨q, hq', hgq, rfl, HSQ, HHK⟩ := hrel
  have x0 : (0 : Int) ≤ (q : Int) := by omega
  have x1 : (q : Int) ≤ 100 := by have := HSZ.out; omega
  by_cases hqc : q < cc
  ·have hqR : q < R.length := by rw [HRB.out.1]; exact hqc
   have hYl : (m.set i (Mat.rscaleTo (Gf.gi x) R q)).length = m.length := List.length_set
   have hYi : (m.set i (Mat.rscaleTo (Gf.gi x) R q)).getD i [] = Mat.rscaleTo (Gf.gi x) R q := by rw [Mat.getD_setL _ _ _ _ HIL.out, if_pos rfl]
   have hrl2 : (Poly.up (Mat.rscaleTo (Gf.gi x) R q)).length = cc := by rw [Poly.up_length, Mat.rscaleTo_length, HRB.out.1]
   obtain ⟨g', gu', cu', hA', hh, _, hx, _, hput⟩ := HSQ.out.mput2 (by decide) (HJ.out _) (i := i) (q := q) (by rw [upM_length, hYl]; exact HIL.out) (by rw [upM_getD, hYi, hrl2]; exact hqc)
   injection hA' with hA'
   injection hA' with hA'
   subst hA'
   rw [upM_getD, hYi, hrl2] at hh
   have hne := HSQ.out.mne (by decide) (HJ.out _) (i := i) (by rw [upM_length, hYl]; exact HIL.out) hh
   have hk2 := hh.symm.trans HHK.out
   injection hk2 with hk2
   injection hk2 with hk3 _ hk4
   injection hk3 with hk3
   injection hk3 with hk3
   subst hk3 hk4
   rw [upM_getD, hYi, Poly.rd_up, Mat.rscaleTo_at _ hqR] at hx
   have hyb : R.getD q 0 < 256 := Poly.AllB.get HRB.out.2 q
   have hset : (upM (m.set i (Mat.rscaleTo (Gf.gi x) R q))).set i ((Poly.up (Mat.rscaleTo (Gf.gi x) R q)).set q ((Gf.gm (R.getD q 0) (Gf.gi x) : Nat) : Int)) = upM (m.set i (Mat.rscaleTo (Gf.gi x) R (q + 1))) := by rw [Poly.up_set, Mat.rscaleTo_succ _ hqR, upM_set, List.set_set]
   have hput2 : ∀ W, Below wr.heap.size wr W → (∃ v, W.cell? ⟨gu', q, none⟩ = some v) ∧ W.frozen? ⟨gu', q, none⟩ = false ∧ Env.Env 23 3 w0 (W.setCell ⟨gu', q, none⟩ (.int .i64 ((Gf.gm (R.getD q 0) (Gf.gi x) : Nat) : Int))) (L.set j (.slice (some ⟨g, 0, none⟩) m.length c, .mat (upM (m.set i (Mat.rscaleTo (Gf.gi x) R (q + 1)))))) ∧ (W.setCell ⟨gu', q, none⟩ (.int .i64 ((Gf.gm (R.getD q 0) (Gf.gi x) : Nat) : Int))).cell? ⟨g, i, none⟩ = some (.slice (some ⟨gu', 0, none⟩) cc cu') := fun W hW => by
    have h8 := hput W hW
    have h9 := h8.2.2 ((Gf.gm (R.getD q 0) (Gf.gi x) : Nat) : Int)
    rw [upM_getD, hYi, hset, List.set_set] at h9
    exact ⟨⟨_, h8.1⟩, h8.2.1, h9, Env.cell_far (pw_cell_below hW hh) hne⟩
   have HPW := Aside0.mk hput2
   obtain ⟨K2, h2⟩ := (spec_l1Div_ev (R.getD q 0) x hyb HSZ.out.2).rounds
   have HK2 := Aside0.mk h2
   have j1 : ((q : Int) < (cc : Int)) = True := eq_true (by omega)
   have j2 : (q < cc) = True := eq_true hqc
   generalize R.getD q 0 = y at hx HPW HK2
   clear hput hput2 hset hyb h2 hh hne hqR hrl2 hYl hYi HHK HSQ
   go_wp2_with (go_at_call 197; refine (spec_l1Div.calls K2 (y : Int) (x : Int) _ _ HK2.out).mono ?_; rintro e w4 ⟨rfl, hd4⟩; obtain ⟨⟨v4, hv4⟩, hf4, hE4, hC4⟩ := HPW.out w4 hd4.below; have HE4 := Aside0.mk hE4; have HC4 := Aside0.mk hC4; clear hE4 hC4 hd4)
   go_roundg (cc - (q + 1))
   case measure => omega
   case rel => exact ⟨q + 1, by omega, by omega, by go_num, HE4, HC4⟩
  ·have j1 : ((q : Int) < (cc : Int)) = False := eq_false (by omega)
   have hqe : q = R.length := by rw [HRB.out.1]; omega
   have HE6 := Aside0.mk (show Env.Env 23 3 w0 wr (L.set j (.slice (some ⟨g, 0, none⟩) m.length c, .mat (upM (m.set i (Mat.rscale (Gf.gi x) R))))) from by
    have h9 := HSQ.out
    rw [hqe, Mat.rscaleTo_all] at h9
    exact h9)
   clear hqe HSQ HHK
   go_wp2
   refine bodyPost_end (results_none rfl _ _ _) rfl ?_
   exact ⟨rfl, HE6.out⟩
def T_sa3 : Bool × List (List Nat × List Nat) := (true, [([], []), ([], []), ([0, 1], [0, 1]), ([2], [2]), ([], []), ([], []), ([4, 5], [4, 5]), ([3, 6], [3, 6]), ([0, 1, 0, 1, 2, 3, 4, 5, 6, 7], [0, 1]), ([8, 7, 6, 0, 1, 2, 3, 4, 5, 6, 7], [7, 8])])
def B_sa3 : List Nat := [0, 0, 3, 7, 0, 0, 48, 127, 255, 511]
theorem tab_sa3 : rtab .any (opsOf Try.f131 3) = T_sa3 := by kernel_rfl
theorem bits_sa3 : waitsOk T_sa3.2 B_sa3 = true := by kernel_rfl
set_option maxHeartbeats 8000000 in
set_option maxRecDepth 100000 in
theorem l2addM_e {w0 w : World} {L : List (Value × Env.It)} (E : Env.Env 23 3 w0 w L) (j : Nat) {g c : Nat} {m : List (List Nat)} (hj : L[j]? = some (.slice (some ⟨g, 0, none⟩) m.length c, .mat (upM m))) {cc : Nat} (hm : Mat.MB' cc m) (hc : cc ≤ 100) {i r : Nat} (hi : i < m.length) (hr : r < m.length) (hir : ¬ i = r) {gu cu gt ct : Nat} (hh : w.cell? ⟨g, i, none⟩ = some (.slice (some ⟨gu, 0, none⟩) cc cu)) (ht : w.cell? ⟨g, r, none⟩ = some (.slice (some ⟨gt, 0, none⟩) cc ct)) (x : Nat) (hx : x < 256) :
  Calls Try.prog 131 #[.slice (some ⟨gu, 0, none⟩) cc cu, .slice (some ⟨gt, 0, none⟩) cc ct, .int .i64 (x : Int)] w fun e w' => e = .returned (.tuple #[]) ∧ Env.Env 23 3 w0 w' (L.set j (.slice (some ⟨g, 0, none⟩) m.length c, .mat (upM (m.set i (Mat.radd x (m.getD i []) (m.getD r [])))))) := by
 obtain ⟨R, hR⟩ : ∃ R, R = m.getD i [] := ⟨_, rfl⟩
 obtain ⟨T, hT⟩ : ∃ T, T = m.getD r [] := ⟨_, rfl⟩
 rw [← hR, ← hT]
 have HRB := Aside0.mk (show R.length = cc ∧ Poly.AllB R from by rw [hR]; exact hm.get hi)
 have HTB := Aside0.mk (show T.length = cc ∧ Poly.AllB T from by rw [hT]; exact hm.get hr)
 have HSZ := Aside0.mk (show cc ≤ 100 ∧ x < 256 from ⟨hc, hx⟩)
 have HJ := Aside0.mk (show ∀ Z, (L.set j (.slice (some ⟨g, 0, none⟩) m.length c, .mat (upM Z)))[j]? = some (.slice (some ⟨g, 0, none⟩) m.length c, Env.It.mat (upM Z)) from fun Z => Env.set_at hj)
 have HE := Aside0.mk (show Env.Env 23 3 w0 w (L.set j (.slice (some ⟨g, 0, none⟩) m.length c, .mat (upM (m.set i (Mat.raddTo x R T 0))))) from by rw [Mat.raddTo_zero, hR, Mat.set_self, set_same hj]; exact E)
 have HH := Aside0.mk hh
 have HT := Aside0.mk ht
 have HIL := Aside0.mk hi
 have HRL := Aside0.mk hr
 have HYR := Aside0.mk (show ∀ X, (m.set i X).getD r [] = T from fun X => by rw [Mat.getD_setL _ _ _ _ hi, if_neg (fun h => hir h.symm), hT])
 clear E hR hT hm hc hx hj hh ht hi hr hir
 go_enter Try.func131, Try.ntmps131
 go_wp2
 go_loopg [10] cc (fun gg s10 wq => ∃ q : Nat, q ≤ cc ∧ cc - q ≤ gg ∧ s10 = .int .i64 q ∧ Aside0 (Env.Env 23 3 w0 wq (L.set j (.slice (some ⟨g, 0, none⟩) m.length c, .mat (upM (m.set i (Mat.raddTo x R T q)))))) ∧ Aside0 (wq.cell? ⟨g, i, none⟩ = some (.slice (some ⟨gu, 0, none⟩) cc cu)) ∧ Aside0 (wq.cell? ⟨g, r, none⟩ = some (.slice (some ⟨gt, 0, none⟩) cc ct)))
 case atStart => exact ⟨0, Nat.zero_le _, by omega, rfl, HE, HH, HT⟩
 case round =>
  clear HE HH HT
  obtain ⟨q, hq', hgq, rfl, HSQ, HHK, HTK⟩ := hrel
  have x0 : (0 : Int) ≤ (q : Int) := by omega
  have x1 : (q : Int) ≤ 100 := by have := HSZ.out; omega
  have hRT : R.length = T.length := by rw [HRB.out.1, HTB.out.1]
  by_cases hqc : q < cc
  ·have hqR : q < R.length := by rw [HRB.out.1]; exact hqc
   have hYl : (m.set i (Mat.raddTo x R T q)).length = m.length := List.length_set
   have hYi : (m.set i (Mat.raddTo x R T q)).getD i [] = Mat.raddTo x R T q := by rw [Mat.getD_setL _ _ _ _ HIL.out, if_pos rfl]
   have hrl2 : (Poly.up (Mat.raddTo x R T q)).length = cc := by rw [Poly.up_length, Mat.raddTo_length hRT, HRB.out.1]
   have HQ := HSQ.out.drewN 1
   obtain ⟨g', gu', cu', hA', hh, _, hx, _, hput⟩ := HQ.mput2 (by decide) (HJ.out _) (i := i) (q := q) (by rw [upM_length, hYl]; exact HIL.out) (by rw [upM_getD, hYi, hrl2]; exact hqc)
   injection hA' with hA'
   injection hA' with hA'
   subst hA'
   rw [upM_getD, hYi, hrl2] at hh
   have hne := HQ.mne (by decide) (HJ.out _) (i := i) (by rw [upM_length, hYl]; exact HIL.out) hh
   have hk2 := hh.symm.trans HHK.out
   injection hk2 with hk2
   injection hk2 with hk3 _ hk4
   injection hk3 with hk3
   injection hk3 with hk3
   subst hk3 hk4
   rw [upM_getD, hYi, Poly.rd_up, Mat.raddTo_at hRT hqR] at hx
   obtain ⟨g', gt', ct', hA', ht, _, htx, _, _⟩ := HQ.mput2 (by decide) (HJ.out _) (i := r) (q := q) (by rw [upM_length, hYl]; exact HRL.out) (by rw [upM_getD, HYR.out, Poly.up_length, HTB.out.1]; exact hqc)
   injection hA' with hA'
   injection hA' with hA'
   subst hA'
   rw [upM_getD, HYR.out, Poly.up_length, HTB.out.1] at ht
   have hk2 := ht.symm.trans HTK.out
   injection hk2 with hk2
   injection hk2 with hk3 _ hk4
   injection hk3 with hk3
   injection hk3 with hk3
   subst hk3 hk4
   rw [upM_getD, HYR.out, Poly.rd_up] at htx
   have hyb : R.getD q 0 < 256 := Poly.AllB.get HRB.out.2 q
   have htb : T.getD q 0 < 256 := Poly.AllB.get HTB.out.2 q
   have hxr := xor_up hyb (Gf.gm_lt (T.getD q 0) HSZ.out.2)
   have hset : (upM (m.set i (Mat.raddTo x R T q))).set i ((Poly.up (Mat.raddTo x R T q)).set q (Go.bits .xor .i64 ((R.getD q 0 : Nat) : Int) ((Gf.gm x (T.getD q 0) : Nat) : Int))) = upM (m.set i (Mat.raddTo x R T (q + 1))) := by rw [hxr, Poly.up_set, Mat.raddTo_succ hRT hqR, upM_set, List.set_set]
   have hput2 : ∀ W, Below wr.drew.heap.size wr.drew W → (∃ v, W.cell? ⟨gu', q, none⟩ = some v) ∧ W.frozen? ⟨gu', q, none⟩ = false ∧ Env.Env 23 3 w0 (W.setCell ⟨gu', q, none⟩ (.int .i64 (Go.bits .xor .i64 ((R.getD q 0 : Nat) : Int) ((Gf.gm x (T.getD q 0) : Nat) : Int)))) (L.set j (.slice (some ⟨g, 0, none⟩) m.length c, .mat (upM (m.set i (Mat.raddTo x R T (q + 1)))))) ∧ (W.setCell ⟨gu', q, none⟩ (.int .i64 (Go.bits .xor .i64 ((R.getD q 0 : Nat) : Int) ((Gf.gm x (T.getD q 0) : Nat) : Int)))).cell? ⟨g, i, none⟩ = some (.slice (some ⟨gu', 0, none⟩) cc cu') ∧ (W.setCell ⟨gu', q, none⟩ (.int .i64 (Go.bits .xor .i64 ((R.getD q 0 : Nat) : Int) ((Gf.gm x (T.getD q 0) : Nat) : Int)))).cell? ⟨g, r, none⟩ = some (.slice (some ⟨gt', 0, none⟩) cc ct') := fun W hW => by
    have h8 := hput W hW
    have h9 := h8.2.2 (Go.bits .xor .i64 ((R.getD q 0 : Nat) : Int) ((Gf.gm x (T.getD q 0) : Nat) : Int))
    rw [upM_getD, hYi, hset, List.set_set] at h9
    exact ⟨⟨_, h8.1⟩, h8.2.1, h9, Env.cell_far (pw_cell_below hW hh) hne, Env.cell_far (pw_cell_below hW ht) hne⟩
   have HPW := Aside0.mk hput2
   obtain ⟨K2, h2⟩ := (spec_l1Mul_ev (T.getD q 0) x htb HSZ.out.2).rounds
   rw [Gf.gm_comm htb HSZ.out.2] at h2
   have HK2 := Aside0.mk h2
   have j1 : ((q : Int) < (cc : Int)) = True := eq_true (by omega)
   have j2 : (q < cc) = True := eq_true hqc
   have hx0 : wr.drew.cell? ⟨gu', q, none⟩ = some (.int .i64 ((R.getD q 0 : Nat) : Int)) := hx
   have htw : wr.cell? ⟨gt', q, none⟩ = some (.int .i64 ((T.getD q 0 : Nat) : Int)) := htx
   generalize R.getD q 0 = y at hx0 HPW
   generalize T.getD q 0 = z at htw HPW HK2
   clear hput hput2 hset hxr hyb htb h2 hh hx ht htx hne HQ hqR hrl2 hRT hYl hYi HHK HTK HSQ
   go_wp2_with fail
   refine start_ (n := 10) (S := fun w' => w'.cell? ⟨gu', q, none⟩ = some (.int .i64 (y : Int))) (ds := [9]) #[false, false, false, false, false, false, false, false, false, false] (by kernel_rfl) rfl rfl (hx0) (fun hHeld => ?_); refine with_tabW tab_sa3 bits_sa3 (fun HT_ HW_ => ?_)
   generalize wr.drew = w5 at HPW hx0 hHeld ⊢
   refine pure_ (i := 0) (N := some 15) (v := ?_) (a' := ?_) #[true, false, false, false, false, false, false, false, false, false] rfl rfl (any_of HT_.out (by kernel_rfl)) (fun _ _ _ h => h) (Or.inl ⟨by rfl, ?_⟩) ?_ ?_
   rotate_left; (intro w'; go_simp; with_reducible rfl); rotate_left; (simp only [Act.put, List.setIfInBounds_toArray, List.set_cons_zero, List.set_cons_succ, i64_w, i32_w]; rfl)
   refine pure_ (i := 1) (N := some 16) (v := ?_) (a' := ?_) #[true, true, false, false, false, false, false, false, false, false] rfl rfl (any_of HT_.out (by kernel_rfl)) (fun _ _ _ h => h) (Or.inl ⟨by rfl, ?_⟩) ?_ ?_
   rotate_left; (intro w'; go_simp; with_reducible rfl); rotate_left; (simp only [Act.put, List.setIfInBounds_toArray, List.set_cons_zero, List.set_cons_succ, i64_w, i32_w]; rfl)
   refine pure_ (i := 2) (N := some 17) (v := ?_) (a' := ?_) #[true, true, true, false, false, false, false, false, false, false] rfl rfl (any_of HT_.out (by kernel_rfl)) (fun _ _ _ h => h) (Or.inl ⟨by rfl, ?_⟩) ?_ ?_
   rotate_left; (intro w'; go_simp; with_reducible rfl); rotate_left; (simp only [Act.put, List.setIfInBounds_toArray, List.set_cons_zero, List.set_cons_succ, i64_w, i32_w]; rfl)
   refine pure_ (i := 4) (N := some 19) (v := ?_) (a' := ?_) #[true, true, true, false, true, false, false, false, false, false] rfl rfl (any_of HT_.out (by kernel_rfl)) (fun _ _ _ h => h) (Or.inl ⟨by rfl, ?_⟩) ?_ ?_
   rotate_left; (intro w'; go_simp; with_reducible rfl); rotate_left; (simp only [Act.put, List.setIfInBounds_toArray, List.set_cons_zero, List.set_cons_succ, i64_w, i32_w]; rfl)
   refine pure_ (i := 5) (N := some 20) (v := ?_) (a' := ?_) #[true, true, true, false, true, true, false, false, false, false] rfl rfl (any_of HT_.out (by kernel_rfl)) (fun _ _ _ h => h) (Or.inl ⟨by rfl, ?_⟩) ?_ ?_
   rotate_left; (intro w'; go_simp; with_reducible rfl); rotate_left; (simp only [Act.put, List.setIfInBounds_toArray, List.set_cons_zero, List.set_cons_succ, i64_w, i32_w]; rfl)
   refine take_ (i := 3) (N := some 18) (v := ?_) (a' := ?_) #[true, true, true, true, true, true, false, false, false, false] rfl rfl (take_ofW HT_.out HW_.out (by kernel_rfl)) (fun _ _ _ h => h) (Or.inl ⟨by rfl, ?_⟩) hHeld ?_ ?_
   rotate_left
   ·intro w' s0
    go_simp
    with_reducible rfl
   rotate_left
   ·simp only [Act.put, List.setIfInBounds_toArray, List.set_cons_zero, List.set_cons_succ, i64_w, i32_w]
    rfl
   refine one_ (i := 6) (N := some 21) #[true, true, true, true, true, true, true, false, false, false] rfl rfl (one_of HT_.out (by kernel_rfl)) (by decide) (fun K hK => ?_)
   refine goes_ Try.func163 (by kernel_rfl) rfl #[.int .i64 (z : Int), .int .i64 (x : Int)] (by rfl) rfl rfl (by (try simp only [List.map_toArray, List.map_cons, List.map_nil]); first | done | rfl | (simp only [List.length_drop, List.length_take]; rfl)) ?_
   refine (spec_l1Mul.calls K2 (z : Int) (x : Int) _ _ HK2.out).mono ?_
   rintro e w4 ⟨rfl, hd4⟩
   refine ⟨_, rfl, ?_⟩
   obtain ⟨⟨v4, hv4⟩, hf4, hE4, hC4, hD4⟩ := HPW.out w4 hd4.below
   have HE4 := Aside0.mk hE4
   have HC4 := Aside0.mk hC4
   have HD4 := Aside0.mk hD4
   have hS4 := pw_cell_below hd4.below hx0
   clear hE4 hC4 hD4 hd4 HPW HK2 hx0 htw
   refine hK.out _ _ hS4 (fun hHeld => ?_)
   clear hK K hS4
   refine norm_ (a' := ?_) ?_ ?_
   rotate_left
   ·show Act.put _ (some 21) _ = _
    simp only [Act.put, List.setIfInBounds_toArray, List.set_cons_zero, List.set_cons_succ, i64_w, i32_w]
    rfl
   refine pure_ (i := 7) (N := some 22) (v := ?_) (a' := ?_) #[true, true, true, true, true, true, true, true, false, false] rfl rfl (any_of HT_.out (by kernel_rfl)) (fun _ _ _ h => h) (Or.inl ⟨by rfl, ?_⟩) ?_ ?_
   rotate_left; (intro w'; go_simp; with_reducible rfl); rotate_left; (simp only [Act.put, List.setIfInBounds_toArray, List.set_cons_zero, List.set_cons_succ, i64_w, i32_w]; rfl)
   refine pure_ (i := 8) (N := some 23) (v := ?_) (a' := ?_) #[true, true, true, true, true, true, true, true, true, false] rfl rfl (any_of HT_.out (by kernel_rfl)) (fun _ _ _ h => h) (Or.inl ⟨by rfl, ?_⟩) ?_ ?_
   rotate_left; (intro w'; go_simp; with_reducible rfl); rotate_left; (simp only [Act.put, List.setIfInBounds_toArray, List.set_cons_zero, List.set_cons_succ, i64_w, i32_w]; rfl)
   refine last_ (i := 9) (N := none) #[true, true, true, true, true, true, true, true, true, true] rfl rfl (one_of HT_.out (by kernel_rfl)) (by decide) (fun K hK => ?_)
   refine skip_ (w1 := ?_) (by rfl) rfl ?_ ?_
   rotate_left
   ·go_simp
    rfl
   refine hK.out _ _ ?_
   clear hK K
   refine done_ (done_of HT_.out (by kernel_rfl)) ?_
   go_wp2
   go_roundg (cc - (q + 1))
   case measure => omega
   case rel => exact ⟨q + 1, by omega, by omega, by go_num, HE4, HC4, HD4⟩
  ·have j1 : ((q : Int) < (cc : Int)) = False := eq_false (by omega)
   have hqe : q = R.length := by rw [HRB.out.1]; omega
   have HE6 := Aside0.mk (show Env.Env 23 3 w0 wr (L.set j (.slice (some ⟨g, 0, none⟩) m.length c, .mat (upM (m.set i (Mat.radd x R T))))) from by
    have h9 := HSQ.out
    rw [hqe, Mat.raddTo_all hRT] at h9
    exact h9)
   clear hqe hRT HSQ HHK HTK
   go_wp2
   refine bodyPost_end (results_none rfl _ _ _) rfl ?_
   exact ⟨rfl, HE6.out⟩

def pvz (k i : Nat) (m : List (List Nat)) : Int := match Mat.pv k (m.drop i) with
 | none => -1
 | some p => (i : Int) + (p : Int)
theorem pvz_end {k n : Nat} {m : List (List Nat)} (h : m.length = n) : pvz k n m = -1 := by
 unfold pvz
 rw [List.drop_eq_nil_of_le (by omega)]; rfl
theorem pvz_step {k i : Nat} {m : List (List Nat)} (h : i < m.length) : pvz k i m = if (m.getD i []).getD k 0 ≠ 0 then (i : Int) else pvz k (i + 1) m := by
 have e : m.getD i [] = m[i] := by rw [List.getD_eq_getElem?_getD, List.getElem?_eq_getElem h]; rfl
 have e2 : Mat.pv k (m[i] :: m.drop (i + 1)) = if m[i].getD k 0 ≠ 0 then some 0 else (Mat.pv k (m.drop (i + 1))).map (· + 1) := rfl
 unfold pvz
 rw [List.drop_eq_getElem_cons h, e, e2]
 by_cases h0 : m[i].getD k 0 ≠ 0
 ·rw [if_pos h0, if_pos h0]; show (i : Int) + ((0 : Nat) : Int) = _; omega
 ·rw [if_neg h0, if_neg h0]
  cases Mat.pv k (m.drop (i + 1)) with
  | none => rfl
  | some p => show (i : Int) + ((p + 1 : Nat) : Int) = ((i + 1 : Nat) : Int) + (p : Int); omega
def clr1 (m : List (List Nat)) (r k : Nat) : List (List Nat) := match Mat.pv k (m.drop r) with
 | none => m
 | some p => Mat.est m r (r + p) k
def clr2 (m s : List (List Nat)) (r k : Nat) : List (List Nat) := match Mat.pv k (m.drop r) with
 | none => s
 | some p => Mat.est2 m s r (r + p) k
set_option maxHeartbeats 16000000 in
set_option maxRecDepth 100000 in
theorem l2clear_e {w0 w : World} {L : List (Value × Env.It)} (E : Env.Env 23 3 w0 w L) (j1 j2 : Nat) (hj : j1 ≠ j2) {g1 c1 g2 c2 n : Nat} {m s : List (List Nat)} (h1 : L[j1]? = some (.slice (some ⟨g1, 0, none⟩) n c1, .mat (upM m))) (h2 : L[j2]? = some (.slice (some ⟨g2, 0, none⟩) n c2, .mat (upM s)))
  {a b : Nat} (hm : Mat.MB' a m) (hs : Mat.MB' b s) (hmn : m.length = n) (hsn : s.length = n) (ha : a ≤ 100) (hb : b ≤ 100) (hn : n ≤ 100) {r k : Nat} (hr : r < n) (hk : k < a) (hb0 : 0 < b) :
  Calls Try.prog 98 #[.slice (some ⟨g1, 0, none⟩) n c1, .slice (some ⟨g2, 0, none⟩) n c2, .int .i64 (r : Int), .int .i64 (k : Int)] w fun e w' => e = .returned (.bool (Mat.pv k (m.drop r)).isSome) ∧ Env.Env 23 3 w0 w' ((L.set j1 (.slice (some ⟨g1, 0, none⟩) n c1, .mat (upM (clr1 m r k)))).set j2 (.slice (some ⟨g2, 0, none⟩) n c2, .mat (upM (clr2 m s r k)))) := by
 obtain ⟨LX, hLX⟩ : ∃ LX : List (List Nat) → List (List Nat) → List (Value × Env.It), LX = fun Y Z => (L.set j1 (.slice (some ⟨g1, 0, none⟩) n c1, .mat (upM Y))).set j2 (.slice (some ⟨g2, 0, none⟩) n c2, .mat (upM Z)) := ⟨_, rfl⟩
 have eL : LX m s = L := by rw [hLX]; show (L.set j1 _).set j2 _ = L; rw [set_same h1, set_same h2]
 have HL1 := Aside0.mk (show ∀ Y Z, (LX Y Z)[j1]? = some (.slice (some ⟨g1, 0, none⟩) n c1, Env.It.mat (upM Y)) from fun Y Z => by rw [hLX]; show ((L.set j1 _).set j2 _)[j1]? = _; rw [List.getElem?_set_ne (Ne.symm hj)]; exact Env.set_at h1)
 have HL2 := Aside0.mk (show ∀ Y Z, (LX Y Z)[j2]? = some (.slice (some ⟨g2, 0, none⟩) n c2, Env.It.mat (upM Z)) from fun Y Z => by rw [hLX]; exact Env.set_at (x := (.slice (some ⟨g2, 0, none⟩) n c2, .mat (upM s))) (by rw [List.getElem?_set_ne hj]; exact h2))
 have HS1 := Aside0.mk (show ∀ Y Z Y', (LX Y Z).set j1 (.slice (some ⟨g1, 0, none⟩) n c1, .mat (upM Y')) = LX Y' Z from fun Y Z Y' => by rw [hLX]; show ((L.set j1 _).set j2 _).set j1 _ = (L.set j1 _).set j2 _; rw [List.set_comm _ _ hj.symm, List.set_set])
 have HS2 := Aside0.mk (show ∀ Y Z Z', (LX Y Z).set j2 (.slice (some ⟨g2, 0, none⟩) n c2, .mat (upM Z')) = LX Y Z' from fun Y Z Z' => by rw [hLX]; show ((L.set j1 _).set j2 _).set j2 _ = (L.set j1 _).set j2 _; rw [List.set_set])
 have HG := Aside0.mk (show ∀ Y Z, LX Y Z = (L.set j1 (.slice (some ⟨g1, 0, none⟩) n c1, .mat (upM Y))).set j2 (.slice (some ⟨g2, 0, none⟩) n c2, .mat (upM Z)) from fun Y Z => by rw [hLX])
 have HE := Aside0.mk (show Env.Env 23 3 w0 w (LX m s) from by rw [eL]; exact E)
 have HLE := Aside0.mk eL
 have HM := Aside0.mk (show Mat.MB' a m ∧ m.length = n from ⟨hm, hmn⟩)
 have HS := Aside0.mk (show Mat.MB' b s ∧ s.length = n from ⟨hs, hsn⟩)
 have HZ := Aside0.mk (show a ≤ 100 ∧ b ≤ 100 ∧ n ≤ 100 ∧ 0 < b from ⟨ha, hb, hn, hb0⟩)
 have r0 : (0 : Int) ≤ (r : Int) := by omega
 have r1 : (r : Int) ≤ 100 := by omega
 have n1 : (n : Int) ≤ 100 := by omega
 clear E hLX eL h1 h2 hm hs hmn hsn ha hb hn hb0 hj
 go_enter Try.func98, Try.ntmps98
 go_wp2
 go_loopg [9, 10] n (fun gg s9 s10 wr => ∃ (i : Nat) (z : Int), r ≤ i ∧ i ≤ n ∧ i - r ≤ gg ∧ z = (i : Int) - 1 ∧ s10 = .int .i64 z ∧ s9 = .int .i64 (pvz k i m) ∧ wr = w)
 case atStart => exact ⟨n, _, by omega, Nat.le_refl _, by omega, rfl, by go_num, by rw [pvz_end HM.out.2], rfl⟩
 case round =>
  obtain ⟨i, z, hri, hin, hgi, hz, rfl, rfl, rfl⟩ := hrel
  by_cases hlt : r < i
  ·obtain ⟨i, rfl⟩ : ∃ i', i = i' + 1 := ⟨i - 1, by omega⟩
   obtain rfl : z = (i : Int) := by omega
   clear hz
   have i0 : (0 : Int) ≤ (i : Int) := by omega
   have i1 : (i : Int) ≤ 100 := by omega
   have q2 : ((r : Int) ≤ (i : Int)) = True := eq_true (by omega)
   have q3 : (r ≤ i) = True := eq_true (by omega)
   have q4 : ((i : Int) < (n : Int)) = True := eq_true (by omega)
   have q5 : (i < n) = True := eq_true (by omega)
   have q6 : ((k : Int) < (a : Int)) = True := eq_true (by omega)
   have q7 : (k < a) = True := eq_true (by omega)
   obtain ⟨g', gi, ci, hA', hh, _, hx, _, _⟩ := HE.out.mput2 (by decide) (HL1.out _ _) (i := i) (q := k) (by rw [upM_length, HM.out.2]; omega) (by rw [upM_getD, Poly.up_length, (HM.out.1.get (i := i) (by rw [HM.out.2]; omega)).1]; exact hk)
   injection hA' with hA'
   injection hA' with hA'
   subst hA'
   rw [upM_getD, Poly.up_length, (HM.out.1.get (i := i) (by rw [HM.out.2]; omega)).1] at hh
   rw [upM_getD, Poly.rd_up] at hx
   have hst := pvz_step (k := k) (m := m) (i := i) (by rw [HM.out.2]; omega)
   have HST := Aside0.mk hst
   clear hst
   generalize (m.getD i []).getD k 0 = x at hx HST
   by_cases hx0 : x = 0
   ·have e1 : ((x : Int) != 0) = false := by rw [hx0]; rfl
    have e2 : ((x : Int) == 0) = true := by rw [hx0]; rfl
    have hst := HST.out
    rw [if_neg (by omega)] at hst
    replace HST := Aside0.mk hst
    clear hst hx0
    go_wp2
    go_roundg (i - r)
    case measure => omega
    case rel => exact ⟨i, _, by omega, by omega, by omega, rfl, by go_num, by rw [HST.out], rfl⟩
   ·have e1 : ((x : Int) != 0) = true := by rw [bne_iff_ne]; omega
    have e2 : ((x : Int) == 0) = false := by rw [beq_eq_false_iff_ne]; omega
    have hst := HST.out
    rw [if_pos hx0] at hst
    replace HST := Aside0.mk hst
    clear hst hx0
    go_wp2
    go_roundg (i - r)
    case measure => omega
    case rel => exact ⟨i, _, by omega, by omega, by omega, rfl, by go_num, by rw [HST.out], rfl⟩
  ·obtain rfl : i = r := by omega
   subst hz
   have q1 : ((i : Int) ≤ (i : Int) - 1) = False := eq_false (by omega)
   have i0 : (0 : Int) ≤ (i : Int) := by omega
   have i1 : (i : Int) ≤ 100 := by omega
   have epz : pvz k i m = match Mat.pv k (m.drop i) with | none => -1 | some p => (i : Int) + (p : Int) := rfl
   cases hpv : Mat.pv k (m.drop i) with
   | none =>
    rw [hpv] at epz
    replace epz : pvz k i m = -1 := epz
    rw [epz]
    have HPV := Aside0.mk hpv
    clear epz hpv
    go_wp2
    go_ret
    refine ⟨by rw [HPV.out]; rfl, ?_⟩
    unfold clr1 clr2
    rw [HPV.out, ← HG.out]
    exact HE.out
   | some p =>
    rw [hpv] at epz
    replace epz : pvz k i m = (i : Int) + (p : Int) := epz
    rw [epz]
    have HPV := Aside0.mk hpv
    have hps := Mat.pv_some hpv
    rw [List.length_drop, HM.out.2] at hps
    have hpn : i + p < n := by omega
    have q2 : ((i : Int) + (p : Int) < 0) = False := eq_false (by omega)
    have q3 : ((i + p : Nat) : Int) = (i : Int) + (p : Int) := by omega
    have hml := HM.out.2
    have hsl := HS.out.2
    have hsw1 := l2swap_e (HE.out) j1 (m := m) (c := c1) (A := some ⟨g1, 0, none⟩) (by rw [hml]; exact HL1.out _ _) (a := i) (b := i + p) (by omega) (by omega)
    rw [hml, HS1.out, q3] at hsw1
    have HSW1 := Aside0.mk hsw1
    have HPP := Aside0.mk (show i + p < n ∧ (0 ≤ (i : Int) + (p : Int)) from ⟨hpn, by omega⟩)
    clear hsw1 hps hpn hpv epz q3 hml hsl
    go_wp2_with fail
    refine HSW1.out.mono ?_
    rintro e w1 ⟨rfl, hE1⟩
    have HE1 := Aside0.mk hE1
    have hsl := HS.out.2
    have hsw2 := l2swap_e (HE1.out) j2 (m := s) (c := c2) (A := some ⟨g2, 0, none⟩) (by rw [hsl]; exact HL2.out _ _) (a := i) (b := i + p) (by rw [hsl]; omega) (by rw [hsl]; exact HPP.out.1)
    rw [hsl, HS2.out, show ((i + p : Nat) : Int) = (i : Int) + (p : Int) by omega] at hsw2
    have HSW2 := Aside0.mk hsw2
    clear hsw2 hsl hE1 HSW1
    go_wp2_with fail
    refine HSW2.out.mono ?_
    rintro e w2 ⟨rfl, hE2⟩
    obtain ⟨M1, hM1⟩ : ∃ M1, M1 = Mat.swp m i (i + p) := ⟨_, rfl⟩
    obtain ⟨S1, hS1⟩ : ∃ S1, S1 = Mat.swp s i (i + p) := ⟨_, rfl⟩
    rw [← hM1, ← hS1] at hE2
    have HM1 := Aside0.mk (show Mat.MB' a M1 ∧ M1.length = n from by rw [hM1]; exact ⟨Mat.swp_MB HM.out.1 (by rw [HM.out.2]; exact hr) (by rw [HM.out.2]; exact HPP.out.1), by rw [Mat.swp_length]; exact HM.out.2⟩)
    have HS1' := Aside0.mk (show Mat.MB' b S1 ∧ S1.length = n from by rw [hS1]; exact ⟨Mat.swp_MB HS.out.1 (by rw [HS.out.2]; exact hr) (by rw [HS.out.2]; exact HPP.out.1), by rw [Mat.swp_length]; exact HS.out.2⟩)
    have HME := Aside0.mk hM1
    have HSE := Aside0.mk hS1
    have HE2 := Aside0.mk hE2
    clear HE HE1 HSW2 hE2 hM1 hS1 q1 q2
    -- the row at i is divided by what it holds at k
    obtain ⟨x, hx⟩ : ∃ x, x = (M1.getD i []).getD k 0 := ⟨_, rfl⟩
    have HXE := Aside0.mk hx
    have hil : i < M1.length := by rw [HM1.out.2]; exact hr
    have hrw := HM1.out.1.get hil
    have HXB := Aside0.mk (show x < 256 from by rw [hx]; exact Poly.AllB.get hrw.2 k)
    obtain ⟨g', gu, cu, hA', hh1, _, hx1, _, _⟩ := HE2.out.mput2 (by decide) (HL1.out M1 S1) (i := i) (q := k) (by rw [upM_length]; exact hil) (by rw [upM_getD, Poly.up_length, hrw.1]; exact hk)
    injection hA' with hA'
    injection hA' with hA'
    subst hA'
    rw [upM_getD, Poly.up_length, hrw.1] at hh1
    rw [upM_getD, Poly.rd_up, ← hx] at hx1
    have hsc := l2scale_e (HE2.out) j1 (m := M1) (c := c1) (g := g1) (by rw [HM1.out.2]; exact HL1.out _ _) HM1.out.1 HZ.out.1 hil hh1 x HXB.out
    rw [HM1.out.2, HS1.out] at hsc
    have HSC := Aside0.mk hsc
    have q4 : ((i : Int) < (n : Int)) = True := eq_true (by omega)
    have q5 : (i < n) = True := eq_true hr
    have q6 : ((k : Int) < (a : Int)) = True := eq_true (by omega)
    have q7 : (k < a) = True := eq_true hk
    have k0 : (0 : Int) ≤ (k : Int) := by omega
    clear hsc hrw hil hx
    go_wp2_with fail
    refine HSC.out.mono ?_
    rintro e w3 ⟨rfl, hE3⟩
    obtain ⟨T, hT⟩ : ∃ T, T = Mat.rscale (Gf.gi x) (M1.getD i []) := ⟨_, rfl⟩
    rw [← hT] at hE3
    have HE3 := Aside0.mk hE3
    have HTE := Aside0.mk hT
    clear HSC hE3 hT HE2 hh1 hx1
    have hil : i < S1.length := by rw [HS1'.out.2]; exact hr
    have hrw := HS1'.out.1.get hil
    obtain ⟨g', gv, cv, hA', hh1, _, hx1, _, _⟩ := HE3.out.mput2 (by decide) (HL2.out _ S1) (i := i) (q := 0) (by rw [upM_length]; exact hil) (by rw [upM_getD, Poly.up_length, hrw.1]; exact HZ.out.2.2.2)
    injection hA' with hA'
    injection hA' with hA'
    subst hA'
    rw [upM_getD, Poly.up_length, hrw.1] at hh1
    have hsc := l2scale_e (HE3.out) j2 (m := S1) (c := c2) (g := g2) (by rw [HS1'.out.2]; exact HL2.out _ _) HS1'.out.1 HZ.out.2.1 hil hh1 x HXB.out
    rw [HS1'.out.2, HS2.out] at hsc
    have HSC := Aside0.mk hsc
    clear hsc hrw hil hx1
    go_wp2_with fail
    refine HSC.out.mono ?_
    rintro e w4 ⟨rfl, hE4⟩
    obtain ⟨U, hU⟩ : ∃ U, U = Mat.rscale (Gf.gi x) (S1.getD i []) := ⟨_, rfl⟩
    rw [← hU] at hE4
    have HE4 := Aside0.mk hE4
    have HUE := Aside0.mk hU
    clear HSC hE4 hU HE3 hh1
    -- the others are lessened
    obtain ⟨C, hC⟩ : ∃ C, C = Mat.col k M1 := ⟨_, rfl⟩
    have HCE := Aside0.mk hC
    have HCB := Aside0.mk (show Poly.AllB C from by rw [hC]; exact Mat.col_bytes HM1.out.1 k)
    have HCA := Aside0.mk (show ∀ q, C.getD q 0 = (M1.getD q []).getD k 0 from fun q => by rw [hC]; exact Mat.col_at k M1 q)
    have HCL := Aside0.mk (show C.length = (M1.set i T).length from by rw [hC, Mat.col_length, List.length_set])
    have HCL2 := Aside0.mk (show C.length = (S1.set i U).length from by rw [hC, Mat.col_length, List.length_set, HM1.out.2, HS1'.out.2])
    have HNL := Aside0.mk (show (M1.set i T).length = n from by rw [List.length_set]; exact HM1.out.2)
    have HNL2 := Aside0.mk (show (S1.set i U).length = n from by rw [List.length_set]; exact HS1'.out.2)
    have HTL := Aside0.mk (show T.length = a ∧ Poly.AllB T from by rw [HTE.out]; have h9 := HM1.out.1.get (i := i) (by rw [HM1.out.2]; exact hr); exact ⟨by rw [Mat.rscale_length]; exact h9.1, Mat.rscale_bytes _ h9.2⟩)
    have HUL := Aside0.mk (show U.length = b ∧ Poly.AllB U from by rw [HUE.out]; have h9 := HS1'.out.1.get (i := i) (by rw [HS1'.out.2]; exact hr); exact ⟨by rw [Mat.rscale_length]; exact h9.1, Mat.rscale_bytes _ h9.2⟩)
    have HB2 := Aside0.mk (show Mat.MB' a (M1.set i T) ∧ Mat.MB' b (S1.set i U) from ⟨HM1.out.1.set i HTL.out, HS1'.out.1.set i HUL.out⟩)
    have HMR := Aside0.mk (show (M1.set i T).getD i [] = T ∧ (S1.set i U).getD i [] = U from ⟨by rw [Mat.getD_setL _ _ _ _ (by rw [HM1.out.2]; exact hr), if_pos rfl], by rw [Mat.getD_setL _ _ _ _ (by rw [HS1'.out.2]; exact hr), if_pos rfl]⟩)
    have HMO := Aside0.mk (show ∀ q, ¬ q = i → (M1.set i T).getD q [] = M1.getD q [] from fun q hq => by rw [Mat.getD_setL _ _ _ _ (by rw [HM1.out.2]; exact hr), if_neg hq])
    have HEZ := Aside0.mk (show Env.Env 23 3 w0 w4 (LX (Mat.erT T i C (M1.set i T) 0) (Mat.erT U i C (S1.set i U) 0)) from by rw [Mat.erT_zero, Mat.erT_zero]; exact HE4.out)
    clear hC HE4
    go_wp2
    go_loopg [62] n (fun gg s62 wq => ∃ q : Nat, q ≤ n ∧ n - q ≤ gg ∧ s62 = .int .i64 q ∧ Aside0 (Env.Env 23 3 w0 wq (LX (Mat.erT T i C (M1.set i T) q) (Mat.erT U i C (S1.set i U) q))))
    case atStart => exact ⟨0, Nat.zero_le _, by omega, rfl, HEZ⟩
    case round =>
     clear HEZ
     obtain ⟨q, hq', hgq, rfl, HSI⟩ := hrel
     have z0 : (0 : Int) ≤ (q : Int) := by omega
     have z1 : (q : Int) ≤ 100 := by omega
     by_cases hqn : q < n
     ·have hYl : (Mat.erT T i C (M1.set i T) q).length = n := by rw [Mat.erT_length HCL.out]; exact HNL.out
      have hYi : (Mat.erT T i C (M1.set i T) q).getD q [] = (M1.set i T).getD q [] := by
       rw [List.getD_eq_getElem?_getD, Mat.erT_at HCL.out (Nat.le_refl _) (by rw [HNL.out]; exact hqn)]; rfl
      have hYr : (Mat.erT T i C (M1.set i T) q).getD i [] = T := by rw [Mat.erT_top HCL.out q (by rw [HNL.out]; exact hr)]; exact HMR.out.1
      have hY2l : (Mat.erT U i C (S1.set i U) q).length = n := by rw [Mat.erT_length HCL2.out]; exact HNL2.out
      have hY2i : (Mat.erT U i C (S1.set i U) q).getD q [] = (S1.set i U).getD q [] := by
       rw [List.getD_eq_getElem?_getD, Mat.erT_at HCL2.out (Nat.le_refl _) (by rw [HNL2.out]; exact hqn)]; rfl
      have hY2r : (Mat.erT U i C (S1.set i U) q).getD i [] = U := by rw [Mat.erT_top HCL2.out q (by rw [HNL2.out]; exact hr)]; exact HMR.out.2
      have hstep := Mat.erT_succ (top := T) (a := i) HCL.out (i := q) (by rw [HNL.out]; exact hqn)
      have hstep2 := Mat.erT_succ (top := U) (a := i) HCL2.out (i := q) (by rw [HNL2.out]; exact hqn)
      have hMB : Mat.MB' a (Mat.erT T i C (M1.set i T) q) := fun y hy => by
       unfold Mat.erT at hy
       rcases List.mem_append.1 hy with h9 | h9
       ·exact Mat.er_MB HTL.out.1 0 (fun z hz => HCB.out z (List.mem_of_mem_take hz)) (fun z hz => HB2.out.1 z (List.mem_of_mem_take hz)) y h9
       ·exact HB2.out.1 y (List.mem_of_mem_drop h9)
      have hMB2 : Mat.MB' b (Mat.erT U i C (S1.set i U) q) := fun y hy => by
       unfold Mat.erT at hy
       rcases List.mem_append.1 hy with h9 | h9
       ·exact Mat.er_MB HUL.out.1 0 (fun z hz => HCB.out z (List.mem_of_mem_take hz)) (fun z hz => HB2.out.2 z (List.mem_of_mem_take hz)) y h9
       ·exact HB2.out.2 y (List.mem_of_mem_drop h9)
      have hra := HB2.out.1.get (i := q) (by rw [HNL.out]; exact hqn)
      have hrb := HB2.out.2.get (i := q) (by rw [HNL2.out]; exact hqn)
      obtain ⟨Z, hZ⟩ : ∃ Z, Z = Mat.erT T i C (M1.set i T) q := ⟨_, rfl⟩
      obtain ⟨V, hV⟩ : ∃ V, V = Mat.erT U i C (S1.set i U) q := ⟨_, rfl⟩
      rw [← hZ] at hYl hYi hYr hstep HSI hMB
      rw [← hV] at hY2l hY2i hY2r hstep2 HSI hMB2
      obtain ⟨y, hy⟩ : ∃ y, y = (Z.getD q []).getD k 0 := ⟨_, rfl⟩
      have hyc : ¬ q = i → y = C.getD q 0 := fun h => by rw [hy, hYi, HMO.out q h, HCA.out]
      have HYB := Aside0.mk (show y < 256 from by rw [hy, hYi]; exact Poly.AllB.get hra.2 k)
      obtain ⟨g', gi, ci, hA', hh, _, hx, _, _⟩ := HSI.out.mput2 (by decide) (HL1.out Z V) (i := q) (q := k) (by rw [upM_length, hYl]; exact hqn) (by rw [upM_getD, hYi, Poly.up_length, hra.1]; exact hk)
      injection hA' with hA'
      injection hA' with hA'
      subst hA'
      rw [upM_getD, hYi, Poly.up_length, hra.1] at hh
      rw [upM_getD, Poly.rd_up, ← hy] at hx
      have p3 : ((q : Int) < (n : Int)) = True := eq_true (by omega)
      have p4 : (q < n) = True := eq_true hqn
      by_cases hwk : q = i ∨ y = 0
      ·have hst : Mat.erT T i C (M1.set i T) (q + 1) = Z ∧ Mat.erT U i C (S1.set i U) (q + 1) = V := by
        rw [← hstep, ← hstep2]
        unfold Mat.erow
        by_cases hqi : q = i
        ·rw [if_pos hqi, if_pos hqi, ← hYi, ← hY2i]; exact ⟨Mat.set_self _ _, Mat.set_self _ _⟩
        ·have hy0 : C.getD q 0 = 0 := by rw [← hyc hqi]; exact hwk.resolve_left hqi
         rw [if_neg hqi, if_neg hqi, hy0, Mat.radd_nul (by rw [hra.1, HTL.out.1]), Mat.radd_nul (by rw [hrb.1, HUL.out.1]), ← hYi, ← hY2i]; exact ⟨Mat.set_self _ _, Mat.set_self _ _⟩
       have HST := Aside0.mk hst
       clear hst hstep hstep2 hYl hYi hYr hY2l hY2i hY2r hMB hMB2 hra hrb hyc hZ hV hy
       by_cases hqi : q = i
       ·have e1 : ((q : Int) != (i : Int)) = false := by rw [hqi]; simp
        have e2 : ((q : Int) == (i : Int)) = true := by rw [hqi]; simp
        clear hwk hqi
        go_wp2
        go_roundg (n - (q + 1))
        case measure => omega
        case rel => exact ⟨q + 1, by omega, by omega, by go_num, ⟨by rw [HST.out.1, HST.out.2]; exact HSI.out⟩⟩
       ·have hy0 : y = 0 := hwk.resolve_left hqi
        subst hy0
        have e1 : ((q : Int) != (i : Int)) = true := by rw [bne_iff_ne]; omega
        have e2 : ((q : Int) == (i : Int)) = false := by rw [beq_eq_false_iff_ne]; omega
        clear hwk hqi
        go_wp2
        go_roundg (n - (q + 1))
        case measure => omega
        case rel => exact ⟨q + 1, by omega, by omega, by go_num, ⟨by rw [HST.out.1, HST.out.2]; exact HSI.out⟩⟩
      ·have hqi : ¬ q = i := fun h => hwk (.inl h)
       have hy0 : ¬ y = 0 := fun h => hwk (.inr h)
       have e1 : ((q : Int) != (i : Int)) = true := by rw [bne_iff_ne]; omega
       have e2 : ((q : Int) == (i : Int)) = false := by rw [beq_eq_false_iff_ne]; omega
       have e3 : ((y : Int) != 0) = true := by rw [bne_iff_ne]; omega
       have e4 : ((y : Int) == 0) = false := by rw [beq_eq_false_iff_ne]; omega
       have hst1 : Z.set q (Mat.radd y (Z.getD q []) (Z.getD i [])) = Mat.erT T i C (M1.set i T) (q + 1) := by
        rw [← hstep]; unfold Mat.erow; rw [if_neg hqi, ← hyc hqi, hYi, hYr]
       have hst2 : V.set q (Mat.radd y (V.getD q []) (V.getD i [])) = Mat.erT U i C (S1.set i U) (q + 1) := by
        rw [← hstep2]; unfold Mat.erow; rw [if_neg hqi, ← hyc hqi, hY2i, hY2r]
       have HQ := HSI.out.drewN 1
       obtain ⟨g', gt, ct, hA', ht, _, _, _, _⟩ := HQ.mput2 (by decide) (HL1.out Z V) (i := i) (q := k) (by rw [upM_length, hYl]; exact hr) (by rw [upM_getD, hYr, Poly.up_length, HTL.out.1]; exact hk)
       injection hA' with hA'
       injection hA' with hA'
       subst hA'
       rw [upM_getD, hYr, Poly.up_length, HTL.out.1] at ht
       have hadd := l2addM_e HQ j1 (m := Z) (c := c1) (g := g1) (by rw [hYl]; exact HL1.out _ _) hMB HZ.out.1 (i := q) (r := i) (by rw [hYl]; exact hqn) (by rw [hYl]; exact hr) hqi hh ht y HYB.out
       rw [hYl, hst1, HS1.out] at hadd
       have HAD := Aside0.mk hadd
       have hh0 : wr.cell? ⟨g1, q, none⟩ = some (.slice (some ⟨gi, 0, none⟩) a ci) := hh
       have ht0 : wr.cell? ⟨g1, i, none⟩ = some (.slice (some ⟨gt, 0, none⟩) a ct) := ht
       have HS2B := Aside0.mk (show Mat.MB' b V ∧ V.length = n ∧ (V.getD q []).length = b ∧ (V.getD i []).length = b from ⟨hMB2, hY2l, by rw [hY2i]; exact hrb.1, by rw [hY2r]; exact HUL.out.1⟩)
       have HST2 := Aside0.mk hst2
       have HQI := Aside0.mk hqi
       clear hh ht hst1 hst2 hadd HQ hstep hstep2 hYl hYi hYr hY2l hY2i hY2r hMB hMB2 hra hrb hyc hZ hV hy hwk hqi hy0
       go_wp2_with fail
       go_still_tail 9, (by kernel_rfl)
       change wpList _ _ _ _ _ (wr.drewN 1)
       go_wp2_with fail
       refine HAD.out.mono ?_
       rintro e w5 ⟨rfl, hE5⟩
       have HQ := hE5.drewN 1
       obtain ⟨g', gp, cp, hA', hh, _, _, _, _⟩ := HQ.mput2 (by decide) (HL2.out _ V) (i := q) (q := 0) (by rw [upM_length, HS2B.out.2.1]; exact hqn) (by rw [upM_getD, Poly.up_length, HS2B.out.2.2.1]; exact HZ.out.2.2.2)
       injection hA' with hA'
       injection hA' with hA'
       subst hA'
       obtain ⟨g', gt', ct', hA', ht, _, _, _, _⟩ := HQ.mput2 (by decide) (HL2.out _ V) (i := i) (q := 0) (by rw [upM_length, HS2B.out.2.1]; exact hr) (by rw [upM_getD, Poly.up_length, HS2B.out.2.2.2]; exact HZ.out.2.2.2)
       injection hA' with hA'
       injection hA' with hA'
       subst hA'
       rw [upM_getD, Poly.up_length, HS2B.out.2.2.1] at hh
       rw [upM_getD, Poly.up_length, HS2B.out.2.2.2] at ht
       have hadd := l2addM_e HQ j2 (m := V) (c := c2) (g := g2) (by rw [HS2B.out.2.1]; exact HL2.out _ _) HS2B.out.1 HZ.out.2.1 (i := q) (r := i) (by rw [HS2B.out.2.1]; exact hqn) (by rw [HS2B.out.2.1]; exact hr) HQI.out hh ht y HYB.out
       rw [HS2B.out.2.1, HST2.out, HS2.out] at hadd
       have HAD2 := Aside0.mk hadd
       have hh5 : w5.cell? ⟨g2, q, none⟩ = some (.slice (some ⟨gp, 0, none⟩) b cp) := hh
       have ht5 : w5.cell? ⟨g2, i, none⟩ = some (.slice (some ⟨gt', 0, none⟩) b ct') := ht
       clear hh ht hadd HQ hE5 HAD hh0 ht0 hx
       go_wp2_with fail
       go_still_tail 9, (by kernel_rfl)
       change wpList _ _ _ _ _ (w5.drewN 1)
       go_wp2_with fail
       refine HAD2.out.mono ?_
       rintro e w6 ⟨rfl, hE6⟩
       have HE6 := Aside0.mk hE6
       clear hE6 HAD2 hh5 ht5
       go_wp2
       go_roundg (n - (q + 1))
       case measure => omega
       case rel => exact ⟨q + 1, by omega, by omega, by go_num, HE6⟩
     ·have hqe : q = n := by omega
      have p3 : ((q : Int) < (n : Int)) = False := eq_false (by omega)
      have hest : Mat.erT T i C (M1.set i T) q = Mat.est m i (i + p) k := by
       rw [hqe, ← HNL.out, Mat.erT_all HCL.out]
       unfold Mat.est
       rw [← HME.out]
       unfold Mat.top
       rw [← HXE.out, ← HTE.out, ← HCE.out]
      have hest2 : Mat.erT U i C (S1.set i U) q = Mat.est2 m s i (i + p) k := by
       rw [hqe, ← HNL2.out, Mat.erT_all HCL2.out]
       unfold Mat.est2
       rw [← HME.out, ← HSE.out]
       unfold Mat.top
       rw [← HXE.out, ← HUE.out, ← HCE.out]
      have hE7 := HSI.out
      rw [hest, hest2, HG.out] at hE7
      have HE7 := Aside0.mk hE7
      clear hE7 hest hest2 HSI hqe
      go_wp2
      go_ret
      refine ⟨by rw [HPV.out]; rfl, ?_⟩
      unfold clr1 clr2
      rw [HPV.out]
      exact HE7.out

end Go.Proofs.Ytldlldfoaicjcaa.Pure
-- SHRUNK
