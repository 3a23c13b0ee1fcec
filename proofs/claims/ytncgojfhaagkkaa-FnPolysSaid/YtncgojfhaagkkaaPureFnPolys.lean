/- A quotient times what divides, and the rest, are what was divided, and values of products are products: the walk of the law. No conditions beyond the row's own. -/
import Derived.Test.YtncgojfhaagkkaaMFnPolysx7
import Derived.Test.YtncgojfhaagkkaaMFnPolysx0
import Derived.Test.YtncgojfhaagkkaaMFnPolysx1
import Derived.Test.YtncgojfhaagkkaaMFnPolysx2
import Derived.Test.YtncgojfhaagkkaaMFnPolysx3
import Derived.Test.YtncgojfhaagkkaaMFnPolysx4
import Derived.Test.YtncgojfhaagkkaaMFnPolysx5
import Derived.Test.YtncgojfhaagkkaaMFnPolysx6
import Derived.Test.YtncgojfhaagkkaaBit
import Derived.Test.YtncgojfhaagkkaaPoly
import Derived.Test.YtncgojfhaagkkaaRoot
import Derived.Test.YtncgojfhaagkkaaPev
set_option linter.unusedVariables false
set_option linter.unusedSimpArgs false
namespace Go.Proofs.Ytncgojfhaagkkaa.Pure
open Go.RowKit Go.Proofs.Ytncgojfhaagkkaa Go.Proofs.Ytncgojfhaagkkaa.MFnPolys Go.Proofs.YtncgojfhaagkkaaW.PrintWords Go.Proofs.YtncgojfhaagkkaaW.PrintLast Go.Proofs.Ytncgojfhaagkkaa.Bit

theorem impl_within_eq (a b c : Int) : impl_within.f a b c = some (decide (b ≤ a ∧ a ≤ c)) := by
  unfold impl_within.f
  by_cases h : a ≥ b
  · rw [if_pos h]; congr 1; simp [show b ≤ a from h]
  · rw [if_neg h]; congr 1; simp; omega

/-- Is a number an element? -/
def isB (a : Int) : Bool := decide (0 ≤ a ∧ a ≤ 255)
theorem isB_nat {a : Int} (h : isB a = true) : ∃ n : Nat, a = (n : Int) ∧ n < 256 := by
  simp only [isB, decide_eq_true_eq] at h
  exact ⟨a.toNat, by omega, by omega⟩
theorem isB_cast {n : Nat} (h : n < 256) : isB (n : Int) = true := by simp only [isB, decide_eq_true_eq]; omega

theorem impl_isGf_eq (a : Int) : impl_isGf.f a = some (isB a) := by
  unfold impl_isGf.f; rw [impl_within_eq]; rfl

theorem impl_mul_l0 : ∀ (n a b o : Nat), a < 256 → o < 256 → b < 2 ^ n → b < 2 ^ 63 → Ev (fun k => impl_mul.l0 k (a : Int) (b : Int) (o : Int)) ((Gf.gmA n a b o : Nat) : Int) := by
  have stop : ∀ a o : Nat, Ev (fun k => impl_mul.l0 k (a : Int) ((0 : Nat) : Int) (o : Int)) ((o : Nat) : Int) := fun a o =>
    Ev.step (f := fun _ => some ((o : Nat) : Int)) (fun k => by simp only [impl_mul.l0]; rw [if_neg (by omega)]) (Ev.now _)
  intro n
  induction n with
  | zero =>
    intro a b o ha ho hb _
    obtain rfl : b = 0 := by simpa using hb
    exact stop a o
  | succ n ih =>
    intro a b o ha ho hb hb63
    by_cases h0 : b = 0
    · subst h0
      rw [Gf.gmA_zero]
      exact stop a o
    · have e1 : wrap64 ((a : Int) * 2) = ((a * 2 : Nat) : Int) := by rw [wrap_id (by omega) (by omega)]; omega
      have e2 : Go.bits .xor .i64 ((a * 2 : Nat) : Int) 285 = (((a * 2) ^^^ 285 : Nat) : Int) := xor_nat (a := a * 2) (b := 285) (by omega) (by decide)
      have e3 : Go.bits .xor .i64 (o : Int) (a : Int) = ((o ^^^ a : Nat) : Int) := xor_nat (by omega) (by omega)
      have e4 := and_one (a := b) hb63
      refine Ev.step (f := fun k => impl_mul.l0 k ((Gf.xt a : Nat) : Int) ((b / 2 : Nat) : Int) (((if b % 2 = 1 then o ^^^ a else o) : Nat) : Int)) (fun k => ?_) (ih _ _ _ (Gf.xt_lt a ha) ?_ (by rw [Nat.pow_succ] at hb; omega) (by omega))
      · simp only [impl_mul.l0, e1, e2, e3, e4, half_nat, Gf.xt]
        rw [if_pos (show (b : Int) > 0 by omega)]
        by_cases h1 : b % 2 = 1 <;> by_cases h2 : 255 < a * 2
        · rw [if_pos (show ((b % 2 : Nat) : Int) = 1 by omega), if_pos h1, if_pos (by omega), if_pos h2]
        · rw [if_pos (show ((b % 2 : Nat) : Int) = 1 by omega), if_pos h1, if_neg (by omega), if_neg h2]
        · rw [if_neg (show ¬ ((b % 2 : Nat) : Int) = 1 by omega), if_neg h1, if_pos (by omega), if_pos h2]
        · rw [if_neg (show ¬ ((b % 2 : Nat) : Int) = 1 by omega), if_neg h1, if_neg (by omega), if_neg h2]
      · split
        · exact Gf.xor_byte ho ha
        · exact ho
theorem impl_mul_ev (a b : Nat) (ha : a < 256) (hb : b < 256) : Ev (fun k => impl_mul.f k (a : Int) (b : Int)) ((Gf.gm a b : Nat) : Int) :=
  impl_mul_l0 8 a b 0 ha (by decide) hb (by omega)

/-- What MulGf answers. -/
def mulGf (a b : Int) : Int × Bool := if isB a && isB b then (((Gf.gm a.toNat b.toNat : Nat) : Int), true) else (0, false)

theorem impl_MulGf_ev (a b : Int) : Ev (fun k => impl_MulGf.f k a b) (mulGf a b) := by
  unfold impl_MulGf.f mulGf
  simp only [impl_isGf_eq, Option.bind_some]
  cases ha : isB a
  · exact Ev.now _
  · cases hb : isB b
    · exact Ev.now _
    · obtain ⟨m, rfl, hm⟩ := isB_nat ha
      obtain ⟨n, rfl, hn⟩ := isB_nat hb
      exact Ev.bind (f := fun _ t => some (t, true)) (impl_mul_ev m n hm hn) (Ev.now _)

theorem rd_nat (l : List Int) (i : Nat) (h : i < l.length) : rd l (i : Int) = l[i] := by
  unfold rd
  simp [List.getD_eq_getElem?_getD, List.getElem?_eq_getElem h]
theorem wrap_succ (i : Nat) (h : i < 9223372036854775807) : wrap64 ((i : Int) + 1) = ((i + 1 : Nat) : Int) := by rw [wrap_id (by omega) (by omega)]; omega

theorem and_255 (x : Int) : 0 ≤ Go.bits .and .u64 x 255 ∧ Go.bits .and .u64 x 255 ≤ 255 := by
  have h : Go.bits .and .u64 x 255 = IntKind.u64.wrap ((BitVec.ofInt 64 x &&& BitVec.ofInt 64 255).toNat : Int) := rfl
  rw [h, BitVec.toNat_and]
  have h2 : (BitVec.ofInt 64 255).toNat = 255 := by decide
  rw [h2]
  have h3 : (BitVec.ofInt 64 x).toNat &&& 255 ≤ 255 := Nat.and_le_right
  rw [IntKind.wrap_u64]
  omega
theorem wrap_in {n : Int} (h0 : -1000000000000000 ≤ n) (h1 : n ≤ 1000000000000000) : wrap64 n = n := wrap_id (by omega) (by omega)
theorem tmod_in (x n : Int) (hx : 0 ≤ x) (hn : 0 < n) : 0 ≤ Int.tmod x n ∧ Int.tmod x n < n ∧ Int.tmod x n ≤ x := by
  obtain ⟨a, rfl⟩ := nat_of hx
  obtain ⟨b, rfl⟩ := nat_of (a := n) (by omega)
  have e : Int.tmod (a : Int) (b : Int) = ((a % b : Nat) : Int) := rfl
  rw [e]
  have := Nat.mod_lt a (show b > 0 by omega)
  have := Nat.mod_le a b
  omega
/-- The bytes that are drawn from. -/
def BY (s : List Int) : Prop := ∀ x ∈ s, 0 ≤ x ∧ x ≤ 255
theorem wf_BY {s : List Int} (h : ∀ x ∈ s, (Lit.int .u8 x).wf = true) : BY s := fun x hx => by
  have := h x hx
  simp only [Lit.wf, IntKind.min, IntKind.max, IntKind.signed, IntKind.bits, Bool.and_eq_true, decide_eq_true_eq] at this
  simp at this
  omega
theorem BY.rd {s : List Int} (h : BY s) (i : Int) : 0 ≤ rd s i ∧ rd s i ≤ 255 := by
  unfold Go.Proofs.YtncgojfhaagkkaaW.PrintWords.rd
  rw [List.getD_eq_getElem?_getD]
  cases e : s[i.toNat]? with
  | none => exact ⟨Int.le_refl _, (by decide : (0 : Int) ≤ 255)⟩
  | some v => exact h v (List.mem_of_getElem? e)

theorem laws_numberOf_ex {s : List Int} (hs : BY s) (hl : s.length ≤ 1048576) : ∃ n : Nat, Ev (fun k => laws_numberOf.f k s) (n : Int) ∧ n < 1000003 := by
  have h : ∀ d i m : Nat, i + d = s.length → m < 1000003 → ∃ n : Nat, Ev (fun k => laws_numberOf.l0 k (m : Int) s (s.length : Int) (i : Int)) (n : Int) ∧ n < 1000003 := by
    intro d
    induction d with
    | zero =>
      intro i m hi hm
      exact ⟨m, Ev.step (f := fun _ => some (m : Int)) (fun k => by simp only [laws_numberOf.l0]; rw [if_neg (by omega)]) (Ev.now _), hm⟩
    | succ d ih =>
      intro i m hi hm
      have hr := hs.rd (i : Int)
      have e1 : wrap64 (wrap64 (31 * (m : Int)) + wrap64 (rd s (i : Int))) = 31 * (m : Int) + rd s (i : Int) := by
        rw [wrap_in (n := 31 * (m : Int)) (by omega) (by omega), wrap_in (n := rd s (i : Int)) (by omega) (by omega), wrap_in (by omega) (by omega)]
      have ht := tmod_in (31 * (m : Int) + rd s (i : Int)) 1000003 (by omega) (by omega)
      obtain ⟨q, hq⟩ := nat_of ht.1
      obtain ⟨n, h1, h2⟩ := ih (i + 1) q (by omega) (by omega)
      refine ⟨n, Ev.step (f := fun k => laws_numberOf.l0 k (q : Int) s (s.length : Int) ((i + 1 : Nat) : Int)) (fun k => ?_) h1, h2⟩
      have ew : wrap64 ((i : Int) + 1) = ((i + 1 : Nat) : Int) := by rw [wrap_in (by omega) (by omega)]; omega
      simp only [laws_numberOf.l0, e1, hq, ew]
      rw [if_pos (by omega), if_pos (by omega), if_pos (by omega)]
  exact h s.length 0 0 (by omega) (by omega)

theorem spec_l1Cur_next_ex {s : List Int} (hs : BY s) {a : Int} (d : Int) (ha : 0 ≤ a) (hb : a ≤ 1000000000000) : ∃ v a' d', spec_l1Cur_next.f s a d = some (v, a', d') ∧ 0 ≤ v ∧ v ≤ 255 ∧ 0 ≤ a' ∧ a' ≤ a + 1 := by
  have ew : wrap64 (a + 1) = a + 1 := wrap_in (by omega) (by omega)
  unfold spec_l1Cur_next.f
  rw [ew]
  have hr := hs.rd a
  by_cases h1 : a < (s.length : Int)
  · rw [if_pos h1, if_pos ha]
    by_cases h2 : a + 1 ≤ (s.length : Int)
    · rw [if_pos h2]
      exact ⟨_, _, _, rfl, by rw [wrap_in (by omega) (by omega)]; omega, by rw [wrap_in (by omega) (by omega)]; omega, by omega, by omega⟩
    · omega
  · rw [if_neg h1]
    by_cases h2 : a + 1 ≤ (s.length : Int)
    · omega
    · rw [if_neg h2]
      generalize IntKind.u64.wrap ((IntKind.u64.wrap ((IntKind.u64.wrap (d * 6364136223846793005)))) + 1442695040888963407) = z
      have hz := and_255 (z / 1099511627776)
      exact ⟨_, _, _, rfl, by rw [wrap_in (by omega) (by omega)]; omega, by rw [wrap_in (by omega) (by omega)]; omega, by omega, by omega⟩

theorem spec_l1Cur_pick_ex {s : List Int} (hs : BY s) {a : Int} (d : Int) (n : Int) (ha : 0 ≤ a) (hb : a ≤ 900000000000) : ∃ v a' d', spec_l1Cur_pick.f s a d n = some (v, a', d') ∧ 0 ≤ v ∧ (v < n ∨ v = 0) ∧ v ≤ 65535 ∧ 0 ≤ a' ∧ a' ≤ a + 2 := by
  unfold spec_l1Cur_pick.f
  by_cases h1 : n ≤ 1
  · rw [if_pos h1]; exact ⟨_, _, _, rfl, by omega, by omega, by omega, by omega, by omega⟩
  · rw [if_neg h1]
    obtain ⟨v, a1, d1, e1, h2, h3, h4, h5⟩ := spec_l1Cur_next_ex hs d ha (by omega)
    rw [e1, Option.bind_some]
    by_cases h6 : n > 200
    · obtain ⟨v2, a2, d2, e2, h7, h8, h9, h10⟩ := spec_l1Cur_next_ex hs d1 h4 (by omega)
      have ew : wrap64 (wrap64 (v * 256) + v2) = v * 256 + v2 := by rw [wrap_in (n := v * 256) (by omega) (by omega), wrap_in (by omega) (by omega)]
      have ht := tmod_in (v * 256 + v2) n (by omega) (by omega)
      simp only [if_pos h6, e2, Option.bind_some, ew, if_neg (show ¬ n = 0 by omega)]
      exact ⟨_, _, _, rfl, by omega, by omega, by omega, by omega, by omega⟩
    · have ht := tmod_in v n (by omega) (by omega)
      simp only [if_neg h6, if_neg (show ¬ n = 0 by omega)]
      exact ⟨_, _, _, rfl, by omega, by omega, by omega, by omega, by omega⟩

theorem spec_l1Cur_one_ex {s : List Int} (hs : BY s) {a : Int} (d : Int) (n : Int) (ha : 0 ≤ a) (hb : a ≤ 900000000000) : ∃ v a' d', spec_l1Cur_one.f s a d n = some (v, a', d') ∧ 0 ≤ a' ∧ a' ≤ a + 2 := by
  obtain ⟨v, a1, d1, e1, h2, h3, h4, h5, h6⟩ := spec_l1Cur_pick_ex hs d n ha hb
  unfold spec_l1Cur_one.f
  rw [e1, Option.bind_some]
  exact ⟨_, _, _, rfl, h5, h6⟩

theorem spec_l1Cur_poly_l0 {s : List Int} (hs : BY s) : ∀ (n : Nat) (p : List Int) (a d : Int), p.length + n ≤ 1000 → 0 ≤ a → a ≤ 600000000000 - 4 * n → ∃ v a' d', Ev (fun k => spec_l1Cur_poly.l0 k p (n : Int) s a d) (v, a', d') ∧ v.length ≤ 1000 ∧ 0 ≤ a' ∧ a' ≤ a + 4 * n + 4 := by
  intro n
  induction n with
  | zero =>
    intro p a d hp ha hb
    by_cases h0 : p.length = 0
    · refine ⟨p, a, d, Ev.step (f := fun _ => some (p, a, d)) (fun k => ?_) (Ev.now _), by omega, ha, by omega⟩
      rw [spec_l1Cur_poly.l0.eq_2, if_neg (by omega), if_neg (by omega)]
    have e1 : wrap64 ((p.length : Int) - 1) = ((p.length - 1 : Nat) : Int) := by rw [wrap_in (by omega) (by omega)]; omega
    by_cases hr : rd p ((p.length - 1 : Nat) : Int) = 0
    · obtain ⟨v, a1, d1, e2, h1, h2⟩ := spec_l1Cur_one_ex hs d 6 ha (by omega)
      refine ⟨if v = true then p else p.set (p.length - 1) 1, a1, d1, Ev.step (f := fun _ => some (if v = true then p else p.set (p.length - 1) 1, a1, d1)) (fun k => ?_) (Ev.now _), by
        split
        · omega
        · rw [List.length_set]; omega, h1, by omega⟩
      rw [spec_l1Cur_poly.l0.eq_2, if_neg (by omega), if_pos (by omega), e1, if_pos (by omega), if_pos (by omega), if_pos hr, e2, Option.bind_some, Int.toNat_natCast]
      cases v <;> rfl
    · refine ⟨p, a, d, Ev.step (f := fun _ => some (p, a, d)) (fun k => ?_) (Ev.now _), by omega, ha, by omega⟩
      rw [spec_l1Cur_poly.l0.eq_2, if_neg (by omega), if_pos (by omega), e1, if_pos (by omega), if_pos (by omega), if_neg hr]
  | succ n ih =>
    intro p a d hp ha hb
    obtain ⟨x, a1, d1, e1, h3, h4, _, h5, h6⟩ := spec_l1Cur_pick_ex hs d 256 ha (by omega)
    obtain ⟨v, a2, d2, e2, h7, h8, h9⟩ := ih (p ++ [x]) a1 d1 (by simp; omega) h5 (by omega)
    refine ⟨v, a2, d2, Ev.step (f := fun k => spec_l1Cur_poly.l0 k (p ++ [x]) (n : Int) s a1 d1) (fun k => ?_) e2, h7, h8, by omega⟩
    have ew : wrap64 (((n + 1 : Nat) : Int) - 1) = (n : Int) := by rw [wrap_in (by omega) (by omega)]; omega
    rw [spec_l1Cur_poly.l0.eq_2, if_pos (by omega), e1, Option.bind_some, if_pos (by omega), ew]
theorem spec_l1Cur_poly_ex {s : List Int} (hs : BY s) {a : Int} (d n : Int) (ha : 0 ≤ a) (hb : a ≤ 500000000000) (hn : 0 < n) (hn2 : n ≤ 1000) : ∃ v a' d', Ev (fun k => spec_l1Cur_poly.f k s a d n) (v, a', d') ∧ v.length ≤ 1000 ∧ 0 ≤ a' ∧ a' ≤ a + 5000 := by
  obtain ⟨x, a1, d1, e1, h3, h4, _, h5, h6⟩ := spec_l1Cur_pick_ex hs d n ha (by omega)
  obtain ⟨m, rfl⟩ := nat_of h3
  obtain ⟨v, a2, d2, e2, h7, h8, h9⟩ := spec_l1Cur_poly_l0 hs m [] a1 d1 (by simp; omega) h5 (by omega)
  refine ⟨v, a2, d2, ?_, h7, h8, by omega⟩
  unfold spec_l1Cur_poly.f
  simp only [e1, Option.bind_some]
  exact e2

theorem spec_DrawDivPoly_ex {s : List Int} (hs : BY s) : ∃ p q, Ev (fun k => spec_DrawDivPoly.f k s) (p, q) ∧ p.length ≤ 1000 ∧ q.length ≤ 1000 := by
  obtain ⟨p, a1, d1, e1, h1, h2, h3⟩ := spec_l1Cur_poly_ex hs (a := 0) 0 12 (by omega) (by omega) (by omega) (by omega)
  obtain ⟨q, a2, d2, e2, h4, h5, h6⟩ := spec_l1Cur_poly_ex hs d1 7 h2 (by omega) (by omega) (by omega)
  exact ⟨p, q, Ev.bind e1 (Ev.bind e2 (Ev.now _)), h1, h4⟩

theorem impl_pow_l0 : ∀ (f a n o : Nat), a < 256 → o < 256 → n < 2 ^ f → n < 2 ^ 63 → Ev (fun k => impl_pow.l0 k (a : Int) (n : Int) (o : Int)) ((Gf.pwA f a n o : Nat) : Int) := by
  have stop : ∀ a o : Nat, Ev (fun k => impl_pow.l0 k (a : Int) ((0 : Nat) : Int) (o : Int)) ((o : Nat) : Int) := fun a o =>
    Ev.step (f := fun _ => some ((o : Nat) : Int)) (fun k => by simp only [impl_pow.l0]; rw [if_neg (by omega)]) (Ev.now _)
  have z : ∀ f a o, Gf.pwA f a 0 o = o := by
    intro f
    induction f with
    | zero => intro a o; rfl
    | succ f ih => intro a o; exact ih _ _
  intro f
  induction f with
  | zero =>
    intro a n o ha ho hn _
    obtain rfl : n = 0 := by simpa using hn
    exact stop a o
  | succ f ih =>
    intro a n o ha ho hn hn63
    by_cases h0 : n = 0
    · subst h0
      rw [z]
      exact stop a o
    · have e4 := and_one (a := n) hn63
      have hsq := Gf.gm_lt a ha
      by_cases h1 : n % 2 = 1
      · refine Ev.step (f := fun k => (impl_mul.f k (o : Int) (a : Int)).bind fun t => (impl_mul.f k (a : Int) (a : Int)).bind fun u => impl_pow.l0 k u ((n / 2 : Nat) : Int) t) (fun k => ?_) ?_
        · simp only [impl_pow.l0, e4, half_nat]
          rw [if_pos (show (n : Int) > 0 by omega), if_pos (show ((n % 2 : Nat) : Int) = 1 by omega)]
        · have := ih (Gf.gm a a) (n / 2) (Gf.gm o a) hsq (Gf.gm_lt a ho) (by rw [Nat.pow_succ] at hn; omega) (by omega)
          show Ev _ ((Gf.pwA f (Gf.gm a a) (n / 2) (if n % 2 = 1 then Gf.gm o a else o) : Nat) : Int)
          rw [if_pos h1]
          exact Ev.bind (f := fun k t => (impl_mul.f k (a : Int) (a : Int)).bind fun u => impl_pow.l0 k u ((n / 2 : Nat) : Int) t) (impl_mul_ev o a ho ha) (Ev.bind (f := fun k u => impl_pow.l0 k u ((n / 2 : Nat) : Int) ((Gf.gm o a : Nat) : Int)) (impl_mul_ev a a ha ha) this)
      · refine Ev.step (f := fun k => (impl_mul.f k (a : Int) (a : Int)).bind fun u => impl_pow.l0 k u ((n / 2 : Nat) : Int) (o : Int)) (fun k => ?_) ?_
        · simp only [impl_pow.l0, e4, half_nat]
          rw [if_pos (show (n : Int) > 0 by omega), if_neg (show ¬ ((n % 2 : Nat) : Int) = 1 by omega)]
        · have := ih (Gf.gm a a) (n / 2) o hsq ho (by rw [Nat.pow_succ] at hn; omega) (by omega)
          show Ev _ ((Gf.pwA f (Gf.gm a a) (n / 2) (if n % 2 = 1 then Gf.gm o a else o) : Nat) : Int)
          rw [if_neg h1]
          exact Ev.bind (f := fun k u => impl_pow.l0 k u ((n / 2 : Nat) : Int) (o : Int)) (impl_mul_ev a a ha ha) this
theorem impl_pow_ev (a n : Nat) (ha : a < 256) (hn : n < 2 ^ 62) : Ev (fun k => impl_pow.f k (a : Int) (n : Int)) ((Gf.pw a n : Nat) : Int) := by
  have := impl_pow_l0 62 a n 1 ha (by decide) hn (by omega)
  rw [Gf.pwA_eq 62 a n 1 ha (by decide) hn, Gf.one_gm _ (Gf.pw_lt n)] at this
  exact this

theorem impl_inverse_ev (b : Nat) (hb : b < 256) : Ev (fun k => impl_inverse.f k (b : Int)) ((Gf.gi b : Nat) : Int) := by
  unfold impl_inverse.f
  exact Ev.bind (f := fun _ u => some u) (impl_pow_ev b 254 hb (by decide)) (Ev.now _)



theorem xor_up {a b : Nat} (ha : a < 256) (hb : b < 256) : Go.bits .xor .i64 (a : Int) (b : Int) = ((a ^^^ b : Nat) : Int) := xor_nat (by omega) (by omega)
theorem wrap_nat (n : Nat) (h : n ≤ 9223372036854775807) : wrap64 (n : Int) = (n : Int) := wrap_id (by omega) (by omega)
theorem wrap_add (a b : Nat) (h : a + b ≤ 9223372036854775807) : wrap64 ((a : Int) + (b : Int)) = ((a + b : Nat) : Int) := by rw [wrap_id (by omega) (by omega)]; omega
theorem wrap_pred (a : Nat) (h : a ≤ 9223372036854775807) (h0 : 0 < a) : wrap64 ((a : Int) - 1) = ((a - 1 : Nat) : Int) := by rw [wrap_id (by omega) (by omega)]; omega

theorem impl_trimmed_l0 (l : List Nat) (hl : l.length ≤ 1000000) : ∀ n, n ≤ l.length → Ev (fun k => impl_trimmed.l0 k (Poly.up l) (n : Int)) (Poly.up (Poly.trN l n)) := by
  intro n
  induction n with
  | zero =>
    intro _
    refine Ev.step (f := fun _ => some (Poly.up (Poly.trN l 0))) (fun k => ?_) (Ev.now _)
    simp only [impl_trimmed.l0, Poly.up_length]
    rw [if_neg (by omega), if_pos (by omega), if_pos (by omega)]
    rfl
  | succ n ih =>
    intro hn
    have hw : wrap64 (((n + 1 : Nat) : Int) - 1) = (n : Int) := by rw [wrap_pred _ (by omega) (by omega)]; rfl
    unfold Poly.trN
    by_cases h : l.getD n 0 = 0
    · rw [if_pos h]
      refine Ev.step (f := fun k => impl_trimmed.l0 k (Poly.up l) (n : Int)) (fun k => ?_) (ih (by omega))
      simp only [impl_trimmed.l0, Poly.up_length, hw, Poly.rd_up, h]
      rw [if_pos (by omega), if_pos (by omega), if_pos (by omega), if_pos (by omega)]
    · rw [if_neg h]
      refine Ev.step (f := fun _ => some (Poly.up (l.take (n + 1)))) (fun k => ?_) (Ev.now _)
      simp only [impl_trimmed.l0, Poly.up_length, hw, Poly.rd_up]
      rw [if_pos (by omega), if_pos (by omega), if_pos (by omega), if_neg (by omega), if_pos (by omega), if_pos (by omega), Int.toNat_natCast, Poly.up_take]
theorem impl_trimmed_ev (l : List Nat) (hl : l.length ≤ 1000000) : Ev (fun k => impl_trimmed.f k (Poly.up l)) (Poly.up (Poly.tr l)) := by
  have := impl_trimmed_l0 l hl l.length (Nat.le_refl _)
  unfold impl_trimmed.f
  rw [Poly.up_length]
  exact this

theorem rd_get (l : List Int) (i : Nat) (h : i < l.length) : rd l (i : Int) = l[i] := by
  unfold rd
  simp [List.getD_eq_getElem?_getD, List.getElem?_eq_getElem h]
theorem wrap_up (i : Nat) (h : i < 9223372036854775807) : wrap64 ((i : Int) + 1) = ((i + 1 : Nat) : Int) := by rw [wrap_id (by omega) (by omega)]; omega
theorem wrap_down (a : Nat) (h : a ≤ 9223372036854775807) : wrap64 ((a : Int) - 1) = (a : Int) - 1 := wrap_id (by omega) (by omega)
theorem allB_up {l : List Int} (h : l.all isB = true) : ∃ m : List Nat, l = Poly.up m ∧ Poly.AllB m := by
  refine Poly.up_of fun x hx => ?_
  have := List.all_eq_true.1 h x hx
  simpa [isB] using this
theorem up_allB {m : List Nat} (h : Poly.AllB m) : (Poly.up m).all isB = true := by
  rw [List.all_eq_true]
  intro x hx
  have := Poly.up_bytes h x hx
  simp only [isB, decide_eq_true_eq]; omega

/-- Is a list a polynomial? -/
def isP (l : List Int) : Bool := decide (l.length ≤ 40) && (l.all isB && (decide (l.length = 0) || (rd l ((l.length : Int) - 1) != 0)))
theorem isP_up {l : List Int} (h : isP l = true) : ∃ m : List Nat, l = Poly.up m ∧ Poly.AllB m ∧ m.length ≤ 40 ∧ (m = [] ∨ m.getD (m.length - 1) 0 ≠ 0) := by
  unfold isP at h
  simp only [Bool.and_eq_true, Bool.or_eq_true, decide_eq_true_eq, bne_iff_ne] at h
  obtain ⟨h1, h2, h3⟩ := h
  obtain ⟨m, rfl, hm⟩ := allB_up h2
  rw [Poly.up_length] at h1 h3
  refine ⟨m, rfl, hm, h1, ?_⟩
  rcases h3 with h3 | h3
  · exact .inl (List.length_eq_zero_iff.1 h3)
  · by_cases h0 : m.length = 0
    · exact .inl (List.length_eq_zero_iff.1 h0)
    · refine .inr fun e => h3 ?_
      have : (m.length : Int) - 1 = ((m.length - 1 : Nat) : Int) := by omega
      rw [this, Poly.rd_up, e]; rfl
theorem up_isP {m : List Nat} (hm : Poly.AllB m) (hl : m.length ≤ 40) (h : m = [] ∨ m.getD (m.length - 1) 0 ≠ 0) : isP (Poly.up m) = true := by
  unfold isP
  simp only [Bool.and_eq_true, Bool.or_eq_true, decide_eq_true_eq, bne_iff_ne, Poly.up_length]
  refine ⟨hl, up_allB hm, ?_⟩
  by_cases h0 : m.length = 0
  · exact .inl h0
  · refine .inr fun e => ?_
    have e1 : (m.length : Int) - 1 = ((m.length - 1 : Nat) : Int) := by omega
    rw [e1, Poly.rd_up] at e
    rcases h with h | h
    · rw [h] at h0; exact h0 rfl
    · exact h (by omega)

theorem wrap_sub (a b : Nat) (h : b ≤ a) (h2 : a ≤ 9223372036854775807) : wrap64 ((a : Int) - (b : Int)) = ((a - b : Nat) : Int) := by rw [wrap_id (by omega) (by omega)]; omega
theorem wrap_two (a : Nat) (h : a ≤ 1000000) : wrap64 (2 * (a : Int)) = ((2 * a : Nat) : Int) := by rw [wrap_id (by omega) (by omega)]; omega
theorem wrap_addn (a b : Nat) (h : a + b ≤ 9223372036854775807) : wrap64 ((a : Int) + (b : Int)) = ((a + b : Nat) : Int) := by rw [wrap_id (by omega) (by omega)]; omega
theorem drop_getD (l : List Nat) (i : Nat) (h : i < l.length) : l.drop i = l.getD i 0 :: l.drop (i + 1) := by
  rw [List.drop_eq_getElem_cons h]
  simp [List.getD_eq_getElem?_getD, List.getElem?_eq_getElem h]

/-- What EvalGf answers. -/
def evalV (l : List Int) (a : Int) : Int × Bool := if isP l && isB a then (((Poly.gev (l.map Int.toNat) a.toNat : Nat) : Int), true) else (0, false)
theorem toNat_up (m : List Nat) : (Poly.up m).map Int.toNat = m := by
  unfold Poly.up
  rw [List.map_map]
  conv => rhs; rw [← List.map_id m]
  exact List.map_congr_left fun x _ => by simp

/-- The steps of the reference's division: the quotient's list is as long as p. -/
def divS (p q : List Nat) : List Nat × List Nat := Poly.dvA q (Gf.gi (q.getD (q.length - 1) 0)) (p.length + 1 - q.length) (List.replicate p.length 0) p
/-- The steps of the program's division. -/
def divI (p q : List Nat) : List Nat × List Nat := Poly.dvA q (Gf.gi (q.getD (q.length - 1) 0)) (p.length + 1 - q.length) (List.replicate (p.length + 1 - q.length) 0) p
theorem dvA_more (q : List Nat) (inv m : Nat) : ∀ (i : Nat) (quo rest : List Nat), i ≤ quo.length → Poly.dvA q inv i (quo ++ List.replicate m 0) rest = ((Poly.dvA q inv i quo rest).1 ++ List.replicate m 0, (Poly.dvA q inv i quo rest).2)
  | 0, _, _, _ => rfl
  | i + 1, quo, rest, h => by
    unfold Poly.dvA
    rw [List.set_append_left _ _ (by omega)]
    exact dvA_more q inv m i _ _ (by rw [List.length_set]; omega)
theorem div_same (p q : List Nat) (hq : 0 < q.length) : Poly.tr (divS p q).1 = Poly.tr (divI p q).1 ∧ (divS p q).2 = (divI p q).2 := by
  have e : List.replicate p.length 0 = List.replicate (p.length + 1 - q.length) 0 ++ List.replicate (p.length - (p.length + 1 - q.length)) 0 := by
    rw [List.replicate_append_replicate]; congr 1; omega
  have h := dvA_more q (Gf.gi (q.getD (q.length - 1) 0)) (p.length - (p.length + 1 - q.length)) (p.length + 1 - q.length) (List.replicate (p.length + 1 - q.length) 0) p (by rw [List.length_replicate]; exact Nat.le_refl _)
  unfold divS divI
  rw [e, h]
  exact ⟨Poly.tr_zeros _ _, rfl⟩
/-- What DivPoly answers. -/
def divPV (l m : List Int) : List Int × List Int × Bool := if isP l && isP m && decide (0 < m.length) then (Poly.up (Poly.tr (divI (l.map Int.toNat) (m.map Int.toNat)).1), Poly.up (Poly.tr (divI (l.map Int.toNat) (m.map Int.toNat)).2), true) else ([], [], false)
theorem divPV_length (l m : List Int) : (divPV l m).1.length ≤ 41 ∧ (divPV l m).2.1.length ≤ 41 := by
  unfold divPV
  split
  · rename_i h
    simp only [Bool.and_eq_true, decide_eq_true_eq] at h
    obtain ⟨p, rfl, hp, hpl, _⟩ := isP_up h.1.1
    have h1 := Poly.tr_length (divI p (m.map Int.toNat)).1
    have h2 := Poly.tr_length (divI p (m.map Int.toNat)).2
    have h3 := Pev.dvA_length (m.map Int.toNat) (Gf.gi ((m.map Int.toNat).getD ((m.map Int.toNat).length - 1) 0)) (p.length + 1 - (m.map Int.toNat).length) (List.replicate (p.length + 1 - (m.map Int.toNat).length) 0) p
    simp only [Poly.up_length, toNat_up]
    unfold divI at h1 h2 ⊢
    rw [h3.1, List.length_replicate] at h1
    rw [h3.2] at h2
    omega
  · simp

theorem impl_divPoly_l (q : List Nat) (hq : Poly.AllB q) (hq0 : 0 < q.length) (hql : q.length ≤ 1000) (inv : Nat) (hinv : inv < 256) : ∀ (n : Nat) (quo rest : List Nat), Poly.AllB quo → Poly.AllB rest → n ≤ quo.length → n + q.length ≤ rest.length + 1 → quo.length ≤ 5000 → rest.length ≤ 5000 →
    Ev (fun r => impl_divPoly.l0 r (Poly.up q) (Poly.up rest) (Poly.up quo) (inv : Int) ((n : Int) - 1)) (Poly.up (Poly.tr (Poly.dvA q inv n quo rest).1), Poly.up (Poly.tr (Poly.dvA q inv n quo rest).2)) := by
  intro n
  induction n with
  | zero =>
    intro quo rest h1 h2 _ _ h5 h6
    have z : ¬ (((0 : Nat) : Int) - 1 ≥ 0) := by omega
    refine Ev.step (fun k => impl_divPoly.l0.eq_2 _ _ _ _ _ k) ?_
    simp only [if_neg z]
    exact Ev.bind (impl_trimmed_ev quo (by omega)) (Ev.bind (impl_trimmed_ev rest (by omega)) (Ev.now _))
  | succ n ih =>
    intro quo rest h1 h2 h3 h4 h5 h6
    have e0 : ((n + 1 : Nat) : Int) - 1 = (n : Int) := by omega
    have e1 : wrap64 (wrap64 ((n : Int) + (q.length : Int)) - 1) = ((n + q.length - 1 : Nat) : Int) := by rw [wrap_addn _ _ (by omega), wrap_id (by omega) (by omega)]; omega
    have z1 : (n : Int) ≥ 0 := by omega
    have z2 : (0 : Int) ≤ ((n + q.length - 1 : Nat) : Int) := by omega
    have z3 : ((n + q.length - 1 : Nat) : Int) < (rest.length : Int) := by omega
    have z4 : (0 : Int) ≤ (n : Int) := by omega
    have z5 : (n : Int) < (quo.length : Int) := by omega
    have hf := Gf.gm_lt inv (Pev.getD_lt h2 (n + q.length - 1))
    rw [e0]
    refine Ev.step (fun k => impl_divPoly.l0.eq_2 _ _ _ _ _ k) ?_
    simp only [Poly.up_length, Poly.rd_up, e1, if_pos z1, if_pos z2, if_pos z3, if_pos z4, if_pos z5, Int.toNat_natCast]
    refine Ev.bind (impl_mul_ev _ _ (Pev.getD_lt h2 (n + q.length - 1)) hinv) ?_
    unfold Poly.dvA
    generalize Gf.gm (rest.getD (n + q.length - 1) 0) inv = f at hf ⊢
    rw [Poly.up_set]
    have hqn : (quo.set n f).getD n 0 = f := by rw [Pev.getD_set _ _ _ _ (by omega), if_pos rfl]
    have inner : ∀ (d j : Nat) (out : List Nat), j + d = q.length → Poly.AllB out → out.length = rest.length → 
        Poly.mrow f (q.drop j) (n + j) out = Poly.mrow f q n rest → Ev (fun r => impl_divPoly.l1 r (Poly.up q) (Poly.up out) (Poly.up (quo.set n f)) (inv : Int) (n : Int) (Poly.up q) (q.length : Int) (j : Int)) (Poly.up (Poly.tr (Poly.dvA q inv n (quo.set n f) (Poly.mrow f q n rest)).1), Poly.up (Poly.tr (Poly.dvA q inv n (quo.set n f) (Poly.mrow f q n rest)).2)) := by
      intro d
      induction d with
      | zero =>
        intro j out hj ho hl he
        obtain rfl : j = q.length := by omega
        rw [List.drop_length] at he
        have he' : out = Poly.mrow f q n rest := he
        have z : ¬ ((q.length : Nat) : Int) < ((q.length : Nat) : Int) := by omega
        refine Ev.step (fun k => impl_divPoly.l1.eq_2 _ _ _ _ _ _ _ _ k) ?_
        simp only [if_neg z, wrap_down n (by omega)]
        rw [← he']
        exact ih (quo.set n f) out (Poly.AllB.set h1 n hf) ho (by rw [List.length_set]; omega) (by omega) (by rw [List.length_set]; omega) (by omega)
      | succ d ihd =>
        intro j out hj ho hl he
        have hjl : j < q.length := by omega
        have y1 : (j : Int) < (q.length : Int) := by omega
        have y2 : (0 : Int) ≤ (j : Int) := by omega
        have y3 : (0 : Int) ≤ ((n + j : Nat) : Int) := by omega
        have y4 : ((n + j : Nat) : Int) < (out.length : Int) := by omega
        have y5 : (n : Int) < ((quo.set n f).length : Int) := by rw [List.length_set]; omega
        refine Ev.step (fun k => impl_divPoly.l1.eq_2 _ _ _ _ _ _ _ _ k) ?_
        simp only [Poly.up_length, Poly.rd_up, if_pos y1, if_pos y2, wrap_addn n j (by omega), if_pos y3, if_pos y4, if_pos z4, if_pos y5, hqn, wrap_up j (by omega), Int.toNat_natCast]
        refine Ev.bind (impl_mul_ev f (q.getD j 0) hf (hq.get j)) ?_
        rw [xor_up (ho.get (n + j)) (Gf.gm_lt (q.getD j 0) hf), Poly.up_set]
        refine ihd (j + 1) (out.set (n + j) (out.getD (n + j) 0 ^^^ Gf.gm f (q.getD j 0))) (by omega) (ho.set _ (Gf.xor_byte (ho.get _) (Gf.gm_lt _ hf))) (by rw [List.length_set]; exact hl) ?_
        rw [← he, drop_getD q j hjl, show n + (j + 1) = n + j + 1 by omega]
        rfl
    exact inner q.length 0 rest (by omega) h2 rfl (by rw [List.drop_zero, Nat.add_zero])
theorem impl_divPoly_ev (p q : List Nat) (hp : Poly.AllB p) (hq : Poly.AllB q) (hq0 : 0 < q.length) (hpl : p.length ≤ 1000) (hql : q.length ≤ 1000) : Ev (fun r => impl_divPoly.f r (Poly.up p) (Poly.up q)) (Poly.up (Poly.tr (divI p q).1), Poly.up (Poly.tr (divI p q).2)) := by
  have e0 : mx 0 (wrap64 (wrap64 ((p.length : Int) - (q.length : Int)) + 1)) = ((p.length + 1 - q.length : Nat) : Int) := by
    rw [wrap_id (n := (p.length : Int) - (q.length : Int)) (by omega) (by omega), wrap_id (by omega) (by omega)]
    unfold mx
    split <;> omega
  have z1 : (0 : Int) ≤ ((p.length + 1 - q.length : Nat) : Int) := by omega
  have z2 : ((p.length + 1 - q.length : Nat) : Int).toNat ≤ 35184372088832 := by omega
  have e2 : wrap64 ((q.length : Int) - 1) = ((q.length - 1 : Nat) : Int) := by rw [wrap_id (by omega) (by omega)]; omega
  have z4 : (0 : Int) ≤ ((q.length - 1 : Nat) : Int) := by omega
  have z5 : ((q.length - 1 : Nat) : Int) < (q.length : Int) := by omega
  have hcl : slices_Clone_int_int.f (Poly.up p) = some (Poly.up p) := by
    unfold slices_Clone_int_int.f
    exact if_pos (by rw [Poly.up_length]; omega)
  have ht := Pev.getD_lt hq (q.length - 1)
  have e3 : wrap64 ((((p.length + 1 - q.length) : Nat) : Int) - 1) = (((p.length + 1 - q.length) : Nat) : Int) - 1 := wrap_id (by omega) (by omega)
  refine Ev.congr (f := fun r => (impl_inverse.f r ((q.getD (q.length - 1) 0 : Nat) : Int)).bind fun t => impl_divPoly.l0 r (Poly.up q) (Poly.up p) (Poly.up (List.replicate (p.length + 1 - q.length) 0)) t ((((p.length + 1 - q.length) : Nat) : Int) - 1)) (fun r => ?_) ?_
  · unfold impl_divPoly.f
    rw [hcl, Option.bind_some, Poly.up_length, Poly.up_length, e0, if_pos z1, if_pos z2, Option.bind_some, e2, if_pos z4, if_pos z5, Poly.rd_up, Int.toNat_natCast, Poly.up_zeros, Poly.up_length, List.length_replicate, e3]
  · refine Ev.bind (impl_inverse_ev _ ht) ?_
    by_cases h4 : q.length ≤ p.length + 1
    · exact impl_divPoly_l q hq hq0 (by omega) _ (Gf.gi_lt _) (p.length + 1 - q.length) _ p (Poly.AllB.zeros _) hp (by rw [List.length_replicate]; exact Nat.le_refl _) (by omega) (by rw [List.length_replicate]; omega) (by omega)
    · have e4 : p.length + 1 - q.length = 0 := by omega
      unfold divI
      rw [e4]
      have z6 : ¬ (((0 : Nat) : Int) - 1 ≥ 0) := by omega
      refine Ev.step (fun k => impl_divPoly.l0.eq_2 _ _ _ _ _ k) ?_
      simp only [if_neg z6]
      exact Ev.bind (impl_trimmed_ev _ (by rw [List.length_replicate]; omega)) (Ev.bind (impl_trimmed_ev p (by omega)) (Ev.now _))

theorem impl_areGf_eq (l : List Int) : impl_areGf.f l = some (l.all isB) := by
  unfold impl_areGf.f
  have e : impl_areGf.bad = fun n => !isB n := by
    funext n
    simp only [impl_areGf.bad, isB]
  rw [e, List.all_eq_not_any_not]

theorem impl_isPoly_eq (l : List Int) : impl_isPoly.f l = some (isP l) := by
  unfold impl_isPoly.f isP
  by_cases h1 : l.length ≤ 40
  · have z : (l.length : Int) ≤ 40 := by omega
    simp only [if_pos z, decide_eq_true h1, Bool.true_and, impl_areGf_eq, Option.bind_some]
    cases l.all isB
    · rfl
    · by_cases h2 : l.length = 0
      · have z2 : (l.length : Int) = 0 := by omega
        simp only [if_true, if_pos z2, decide_eq_true h2, Bool.true_and, Bool.true_or]
      · have z2 : ¬ (l.length : Int) = 0 := by omega
        have z3 : (0 : Int) ≤ (l.length : Int) - 1 := by omega
        have z4 : (l.length : Int) - 1 < (l.length : Int) := by omega
        simp only [if_true, if_neg z2, decide_eq_false h2, Bool.true_and, Bool.false_or, wrap_down l.length (by omega), if_pos z3, if_pos z4]
  · have z : ¬ (l.length : Int) ≤ 40 := by omega
    simp only [if_neg z, decide_eq_false h1, Bool.false_and]

theorem impl_DivPoly_ev (l m : List Int) : Ev (fun k => impl_DivPoly.f k l m) (divPV l m) := by
  unfold impl_DivPoly.f divPV
  simp only [impl_isPoly_eq, Option.bind_some]
  cases h1 : isP l
  · exact Ev.now _
  · cases h2 : isP m
    · exact Ev.now _
    · by_cases h3 : 0 < m.length
      · obtain ⟨p, rfl, hp, hpl, _⟩ := isP_up h1
        obtain ⟨q, rfl, hq, hql, _⟩ := isP_up h2
        rw [Poly.up_length] at h3
        have z0 : ¬ ((q.length : Nat) : Int) = 0 := by omega
        simp only [if_true, Bool.and_self, Poly.up_length, h3, decide_true, toNat_up, if_neg z0]
        exact Ev.bind (impl_divPoly_ev p q hp hq h3 (by omega) (by omega)) (Ev.now _)
      · have z0 : ((m.length : Nat) : Int) = 0 := by omega
        simp only [if_true, if_pos z0, h3, decide_false, Bool.and_false]
        exact Ev.now _

theorem spec_l1Mul_l0 : ∀ (n a b o : Nat), a < 256 → o < 256 → b < 2 ^ n → b < 2 ^ 63 → Ev (fun k => spec_l1Mul.l0 k (a : Int) (b : Int) (o : Int)) ((Gf.gmA n a b o : Nat) : Int) := by
  have stop : ∀ a o : Nat, Ev (fun k => spec_l1Mul.l0 k (a : Int) ((0 : Nat) : Int) (o : Int)) ((o : Nat) : Int) := fun a o =>
    Ev.step (f := fun _ => some ((o : Nat) : Int)) (fun k => by simp only [spec_l1Mul.l0]; rw [if_neg (by omega)]) (Ev.now _)
  intro n
  induction n with
  | zero =>
    intro a b o ha ho hb _
    obtain rfl : b = 0 := by simpa using hb
    exact stop a o
  | succ n ih =>
    intro a b o ha ho hb hb63
    by_cases h0 : b = 0
    · subst h0
      rw [Gf.gmA_zero]
      exact stop a o
    · have e1 : wrap64 ((a : Int) * 2) = ((a * 2 : Nat) : Int) := by rw [wrap_id (by omega) (by omega)]; omega
      have e2 : Go.bits .xor .i64 ((a * 2 : Nat) : Int) 285 = (((a * 2) ^^^ 285 : Nat) : Int) := xor_nat (a := a * 2) (b := 285) (by omega) (by decide)
      have e3 : Go.bits .xor .i64 (o : Int) (a : Int) = ((o ^^^ a : Nat) : Int) := xor_nat (by omega) (by omega)
      have e4 := and_one (a := b) hb63
      refine Ev.step (f := fun k => spec_l1Mul.l0 k ((Gf.xt a : Nat) : Int) ((b / 2 : Nat) : Int) (((if b % 2 = 1 then o ^^^ a else o) : Nat) : Int)) (fun k => ?_) (ih _ _ _ (Gf.xt_lt a ha) ?_ (by rw [Nat.pow_succ] at hb; omega) (by omega))
      · simp only [spec_l1Mul.l0, e1, e2, e3, e4, half_nat, Gf.xt]
        rw [if_pos (show (b : Int) > 0 by omega)]
        by_cases h1 : b % 2 = 1 <;> by_cases h2 : 255 < a * 2
        · rw [if_pos (show ((b % 2 : Nat) : Int) = 1 by omega), if_pos h1, if_pos (by omega), if_pos h2]
        · rw [if_pos (show ((b % 2 : Nat) : Int) = 1 by omega), if_pos h1, if_neg (by omega), if_neg h2]
        · rw [if_neg (show ¬ ((b % 2 : Nat) : Int) = 1 by omega), if_neg h1, if_pos (by omega), if_pos h2]
        · rw [if_neg (show ¬ ((b % 2 : Nat) : Int) = 1 by omega), if_neg h1, if_neg (by omega), if_neg h2]
      · split
        · exact Gf.xor_byte ho ha
        · exact ho
theorem spec_l1Mul_ev (a b : Nat) (ha : a < 256) (hb : b < 256) : Ev (fun k => spec_l1Mul.f k (a : Int) (b : Int)) ((Gf.gm a b : Nat) : Int) :=
  spec_l1Mul_l0 8 a b 0 ha (by decide) hb (by omega)

theorem spec_l1Pow_l0 : ∀ (f a n o : Nat), a < 256 → o < 256 → n < 2 ^ f → n < 2 ^ 63 → Ev (fun k => spec_l1Pow.l0 k (a : Int) (n : Int) (o : Int)) ((Gf.pwA f a n o : Nat) : Int) := by
  have stop : ∀ a o : Nat, Ev (fun k => spec_l1Pow.l0 k (a : Int) ((0 : Nat) : Int) (o : Int)) ((o : Nat) : Int) := fun a o =>
    Ev.step (f := fun _ => some ((o : Nat) : Int)) (fun k => by simp only [spec_l1Pow.l0]; rw [if_neg (by omega)]) (Ev.now _)
  have z : ∀ f a o, Gf.pwA f a 0 o = o := by
    intro f
    induction f with
    | zero => intro a o; rfl
    | succ f ih => intro a o; exact ih _ _
  intro f
  induction f with
  | zero =>
    intro a n o ha ho hn _
    obtain rfl : n = 0 := by simpa using hn
    exact stop a o
  | succ f ih =>
    intro a n o ha ho hn hn63
    by_cases h0 : n = 0
    · subst h0
      rw [z]
      exact stop a o
    · have e4 := and_one (a := n) hn63
      have hsq := Gf.gm_lt a ha
      by_cases h1 : n % 2 = 1
      · refine Ev.step (f := fun k => (spec_l1Mul.f k (o : Int) (a : Int)).bind fun t => (spec_l1Mul.f k (a : Int) (a : Int)).bind fun u => spec_l1Pow.l0 k u ((n / 2 : Nat) : Int) t) (fun k => ?_) ?_
        · simp only [spec_l1Pow.l0, e4, half_nat]
          rw [if_pos (show (n : Int) > 0 by omega), if_pos (show ((n % 2 : Nat) : Int) = 1 by omega)]
        · have := ih (Gf.gm a a) (n / 2) (Gf.gm o a) hsq (Gf.gm_lt a ho) (by rw [Nat.pow_succ] at hn; omega) (by omega)
          show Ev _ ((Gf.pwA f (Gf.gm a a) (n / 2) (if n % 2 = 1 then Gf.gm o a else o) : Nat) : Int)
          rw [if_pos h1]
          exact Ev.bind (f := fun k t => (spec_l1Mul.f k (a : Int) (a : Int)).bind fun u => spec_l1Pow.l0 k u ((n / 2 : Nat) : Int) t) (spec_l1Mul_ev o a ho ha) (Ev.bind (f := fun k u => spec_l1Pow.l0 k u ((n / 2 : Nat) : Int) ((Gf.gm o a : Nat) : Int)) (spec_l1Mul_ev a a ha ha) this)
      · refine Ev.step (f := fun k => (spec_l1Mul.f k (a : Int) (a : Int)).bind fun u => spec_l1Pow.l0 k u ((n / 2 : Nat) : Int) (o : Int)) (fun k => ?_) ?_
        · simp only [spec_l1Pow.l0, e4, half_nat]
          rw [if_pos (show (n : Int) > 0 by omega), if_neg (show ¬ ((n % 2 : Nat) : Int) = 1 by omega)]
        · have := ih (Gf.gm a a) (n / 2) o hsq ho (by rw [Nat.pow_succ] at hn; omega) (by omega)
          show Ev _ ((Gf.pwA f (Gf.gm a a) (n / 2) (if n % 2 = 1 then Gf.gm o a else o) : Nat) : Int)
          rw [if_neg h1]
          exact Ev.bind (f := fun k u => spec_l1Pow.l0 k u ((n / 2 : Nat) : Int) (o : Int)) (spec_l1Mul_ev a a ha ha) this
theorem spec_l1Pow_ev (a n : Nat) (ha : a < 256) (hn : n < 2 ^ 62) : Ev (fun k => spec_l1Pow.f k (a : Int) (n : Int)) ((Gf.pw a n : Nat) : Int) := by
  have := spec_l1Pow_l0 62 a n 1 ha (by decide) hn (by omega)
  rw [Gf.pwA_eq 62 a n 1 ha (by decide) hn, Gf.one_gm _ (Gf.pw_lt n)] at this
  exact this

theorem spec_l1Div_ev (a b : Nat) (ha : a < 256) (hb : b < 256) : Ev (fun k => spec_l1Div.f k (a : Int) (b : Int)) ((Gf.gm a (Gf.gi b) : Nat) : Int) := by
  unfold spec_l1Div.f
  refine Ev.bind (f := fun k t => (spec_l1Mul.f k (a : Int) t).bind fun u => some u) (spec_l1Pow_ev b 254 hb (by decide)) ?_
  exact Ev.bind (f := fun _ u => some u) (spec_l1Mul_ev a (Gf.gi b) ha (Gf.gi_lt b)) (Ev.now _)

theorem spec_l1Cut_l0 (l : List Nat) (hl : l.length ≤ 1000000) : ∀ n, n ≤ l.length → Ev (fun k => spec_l1Cut.l0 k (Poly.up (l.take n))) (Poly.up (Poly.trN l n)) := by
  intro n
  induction n with
  | zero =>
    intro _
    refine Ev.step (f := fun _ => some (Poly.up (Poly.trN l 0))) (fun k => ?_) (Ev.now _)
    simp only [spec_l1Cut.l0, List.take_zero, Poly.up_length, Option.bind_some]
    rw [if_neg (by simp), if_pos (by simp)]
    rfl
  | succ n ih =>
    intro hn
    have hlen : (Poly.up (l.take (n + 1))).length = n + 1 := by rw [Poly.up_length, List.length_take]; omega
    have hw : wrap64 (((n + 1 : Nat) : Int) - 1) = (n : Int) := by rw [wrap_pred _ (by omega) (by omega)]; rfl
    have hr : rd (Poly.up (l.take (n + 1))) (n : Int) = ((l.getD n 0 : Nat) : Int) := by
      rw [Poly.rd_up]
      simp only [List.getD_eq_getElem?_getD]
      rw [List.getElem?_take_of_lt (by omega)]
    unfold Poly.trN
    by_cases h : l.getD n 0 = 0
    · rw [if_pos h]
      refine Ev.step (f := fun k => spec_l1Cut.l0 k (Poly.up (l.take n))) (fun k => ?_) (ih (by omega))
      simp only [spec_l1Cut.l0, hlen, hw, hr, h]
      rw [if_pos (by omega), if_pos (by omega), if_pos (by omega), if_pos (by omega), if_pos (by omega), Int.toNat_natCast, Poly.up_take, List.take_take, Nat.min_eq_left (by omega)]
    · rw [if_neg h]
      refine Ev.step (f := fun _ => some (Poly.up (l.take (n + 1)))) (fun k => ?_) (Ev.now _)
      simp only [spec_l1Cut.l0, hlen, hw, hr, Option.bind_some]
      rw [if_pos (by omega), if_pos (by omega), if_pos (by omega), if_neg (by omega), if_pos (by simp; omega)]
      rfl
theorem spec_l1Cut_ev (l : List Nat) (hl : l.length ≤ 1000000) : Ev (fun k => spec_l1Cut.f k (Poly.up l)) (Poly.up (Poly.tr l)) := by
  have := spec_l1Cut_l0 l hl l.length (Nat.le_refl _)
  rw [List.take_length] at this
  exact this

theorem spec_l1In_eq (a b c : Int) : spec_l1In.f a b c = some (decide (b ≤ a ∧ a ≤ c)) := by
  unfold spec_l1In.f
  by_cases h : a ≥ b
  · rw [if_pos h]; congr 1; simp [show b ≤ a from h]
  · rw [if_neg h]; congr 1; simp; omega

theorem spec_l1Gf_eq (a : Int) : spec_l1Gf.f a = some (isB a) := by
  unfold spec_l1Gf.f; rw [spec_l1In_eq]; rfl

theorem spec_l1All_l0 (l : List Int) (hl : l.length ≤ 140737488351232) : ∀ d i : Nat, i + d = l.length → Ev (fun k => spec_l1All.l0 k l (l.length : Int) (i : Int)) ((l.drop i).all isB) := by
  intro d
  induction d with
  | zero =>
    intro i hi
    obtain rfl : i = l.length := by omega
    rw [List.drop_length]
    exact Ev.step (f := fun _ => some true) (fun k => by simp only [spec_l1All.l0]; rw [if_neg (by omega)]) (Ev.now _)
  | succ d ih =>
    intro i hi
    have hlt : i < l.length := by omega
    rw [List.drop_eq_getElem_cons hlt, List.all_cons]
    cases hb : isB l[i] with
    | true =>
      refine Ev.step (f := fun k => spec_l1All.l0 k l (l.length : Int) ((i + 1 : Nat) : Int)) (fun k => ?_) (ih (i + 1) (by omega))
      simp only [spec_l1All.l0, rd_get l i hlt, wrap_up i (by omega), spec_l1Gf_eq, hb, Option.bind_some, if_true]
      rw [if_pos (by omega), if_pos (by omega), if_pos (by omega)]
    | false =>
      refine Ev.step (f := fun _ => some false) (fun k => ?_) (Ev.now _)
      simp only [spec_l1All.l0, rd_get l i hlt, wrap_up i (by omega), spec_l1Gf_eq, hb, Option.bind_some]
      rw [if_pos (by omega), if_pos (by omega), if_pos (by omega)]; rfl
theorem spec_l1All_ev (l : List Int) (hl : l.length ≤ 140737488351232) : Ev (fun k => spec_l1All.f k l) (l.all isB) := spec_l1All_l0 l hl l.length 0 (by omega)

theorem spec_l1Poly_ev (l : List Int) : Ev (fun k => spec_l1Poly.f k l) (isP l) := by
  unfold spec_l1Poly.f isP
  by_cases h1 : l.length ≤ 40
  · have z : (l.length : Int) ≤ 40 := by omega
    simp only [if_pos z, decide_eq_true h1, Bool.true_and]
    refine Ev.bind (spec_l1All_ev l (by omega)) ?_
    cases l.all isB
    · exact Ev.now _
    · by_cases h2 : l.length = 0
      · have z2 : (l.length : Int) = 0 := by omega
        simp only [if_true, if_pos z2, decide_eq_true h2, Bool.true_and, Bool.true_or]
        exact Ev.now _
      · have z2 : ¬ (l.length : Int) = 0 := by omega
        have z3 : (0 : Int) ≤ (l.length : Int) - 1 := by omega
        have z4 : (l.length : Int) - 1 < (l.length : Int) := by omega
        simp only [if_true, if_neg z2, decide_eq_false h2, Bool.true_and, Bool.false_or, wrap_down l.length (by omega), if_pos z3, if_pos z4]
        exact Ev.now _
  · have z : ¬ (l.length : Int) ≤ 40 := by omega
    simp only [if_neg z, decide_eq_false h1, Bool.false_and]
    exact Ev.now _

theorem spec_DivPoly_l (q : List Nat) (hq : Poly.AllB q) (hq0 : 0 < q.length) (hql : q.length ≤ 1000) : ∀ (n : Nat) (quo rest : List Nat), Poly.AllB quo → Poly.AllB rest → n ≤ quo.length → n + q.length ≤ rest.length + 1 → quo.length ≤ 5000 → rest.length ≤ 5000 →
    Ev (fun r => spec_DivPoly.l0 r (Poly.up q) (Poly.up rest) (Poly.up quo) ((q.getD (q.length - 1) 0 : Nat) : Int) ((n : Int) - 1)) (Poly.up (Poly.tr (Poly.dvA q (Gf.gi (q.getD (q.length - 1) 0)) n quo rest).1), Poly.up (Poly.tr (Poly.dvA q (Gf.gi (q.getD (q.length - 1) 0)) n quo rest).2), true) := by
  have ht := Pev.getD_lt hq (q.length - 1)
  intro n
  induction n with
  | zero =>
    intro quo rest h1 h2 _ _ h5 h6
    have z : ¬ (((0 : Nat) : Int) - 1 ≥ 0) := by omega
    refine Ev.step (fun k => spec_DivPoly.l0.eq_2 _ _ _ _ _ k) ?_
    simp only [if_neg z]
    exact Ev.bind (spec_l1Cut_ev quo (by omega)) (Ev.bind (spec_l1Cut_ev rest (by omega)) (Ev.now _))
  | succ n ih =>
    intro quo rest h1 h2 h3 h4 h5 h6
    have e0 : ((n + 1 : Nat) : Int) - 1 = (n : Int) := by omega
    have e1 : wrap64 (wrap64 ((n : Int) + (q.length : Int)) - 1) = ((n + q.length - 1 : Nat) : Int) := by rw [wrap_addn _ _ (by omega), wrap_id (by omega) (by omega)]; omega
    have z1 : (n : Int) ≥ 0 := by omega
    have z2 : (0 : Int) ≤ ((n + q.length - 1 : Nat) : Int) := by omega
    have z3 : ((n + q.length - 1 : Nat) : Int) < (rest.length : Int) := by omega
    have z4 : (0 : Int) ≤ (n : Int) := by omega
    have z5 : (n : Int) < (quo.length : Int) := by omega
    have hf := Gf.gm_lt (Gf.gi (q.getD (q.length - 1) 0)) (Pev.getD_lt h2 (n + q.length - 1))
    rw [e0]
    refine Ev.step (fun k => spec_DivPoly.l0.eq_2 _ _ _ _ _ k) ?_
    simp only [Poly.up_length, Poly.rd_up, e1, if_pos z1, if_pos z2, if_pos z3, if_pos z4, if_pos z5, Int.toNat_natCast]
    refine Ev.bind (spec_l1Div_ev _ _ (Pev.getD_lt h2 (n + q.length - 1)) ht) ?_
    unfold Poly.dvA
    generalize Gf.gm (rest.getD (n + q.length - 1) 0) (Gf.gi (q.getD (q.length - 1) 0)) = f at hf ⊢
    rw [Poly.up_set]
    have inner : ∀ (d j : Nat) (out : List Nat), j + d = q.length → Poly.AllB out → out.length = rest.length → 
        Poly.mrow f (q.drop j) (n + j) out = Poly.mrow f q n rest → Ev (fun r => spec_DivPoly.l1 r (Poly.up q) (Poly.up out) (Poly.up (quo.set n f)) ((q.getD (q.length - 1) 0 : Nat) : Int) (n : Int) (f : Int) (Poly.up q) (q.length : Int) (j : Int)) (Poly.up (Poly.tr (Poly.dvA q (Gf.gi (q.getD (q.length - 1) 0)) n (quo.set n f) (Poly.mrow f q n rest)).1), Poly.up (Poly.tr (Poly.dvA q (Gf.gi (q.getD (q.length - 1) 0)) n (quo.set n f) (Poly.mrow f q n rest)).2), true) := by
      intro d
      induction d with
      | zero =>
        intro j out hj ho hl he
        obtain rfl : j = q.length := by omega
        rw [List.drop_length] at he
        have he' : out = Poly.mrow f q n rest := he
        have z : ¬ ((q.length : Nat) : Int) < ((q.length : Nat) : Int) := by omega
        refine Ev.step (fun k => spec_DivPoly.l1.eq_2 _ _ _ _ _ _ _ _ _ k) ?_
        simp only [if_neg z, wrap_down n (by omega)]
        rw [← he']
        exact ih (quo.set n f) out (Poly.AllB.set h1 n hf) ho (by rw [List.length_set]; omega) (by omega) (by rw [List.length_set]; omega) (by omega)
      | succ d ihd =>
        intro j out hj ho hl he
        have hjl : j < q.length := by omega
        have y1 : (j : Int) < (q.length : Int) := by omega
        have y2 : (0 : Int) ≤ (j : Int) := by omega
        have y3 : (0 : Int) ≤ ((n + j : Nat) : Int) := by omega
        have y4 : ((n + j : Nat) : Int) < (out.length : Int) := by omega
        refine Ev.step (fun k => spec_DivPoly.l1.eq_2 _ _ _ _ _ _ _ _ _ k) ?_
        simp only [Poly.up_length, Poly.rd_up, if_pos y1, if_pos y2, wrap_addn n j (by omega), if_pos y3, if_pos y4, wrap_up j (by omega), Int.toNat_natCast]
        refine Ev.bind (spec_l1Mul_ev f (q.getD j 0) hf (hq.get j)) ?_
        rw [xor_up (ho.get (n + j)) (Gf.gm_lt (q.getD j 0) hf), Poly.up_set]
        refine ihd (j + 1) (out.set (n + j) (out.getD (n + j) 0 ^^^ Gf.gm f (q.getD j 0))) (by omega) (ho.set _ (Gf.xor_byte (ho.get _) (Gf.gm_lt _ hf))) (by rw [List.length_set]; exact hl) ?_
        rw [← he, drop_getD q j hjl, show n + (j + 1) = n + j + 1 by omega]
        rfl
    exact inner q.length 0 rest (by omega) h2 rfl (by rw [List.drop_zero, Nat.add_zero])
theorem spec_DivPoly_ev (l m : List Int) : Ev (fun k => spec_DivPoly.f k l m) (divPV l m) := by
  have no : Ev (fun k => spec_DivPoly.j0 k l m true) (([] : List Int), ([] : List Int), false) := Ev.step (f := fun _ => some (([] : List Int), ([] : List Int), false)) (fun k => by simp only [spec_DivPoly.j0]; rfl) (Ev.now _)
  unfold spec_DivPoly.f divPV
  refine Ev.bind (spec_l1Poly_ev l) ?_
  cases h1 : isP l
  · exact no
  · simp only [if_true]
    refine Ev.bind (spec_l1Poly_ev m) ?_
    cases h2 : isP m
    · exact no
    · by_cases h3 : 0 < m.length
      · obtain ⟨p, rfl, hp, hpl, _⟩ := isP_up h1
        obtain ⟨q, rfl, hq, hql, _⟩ := isP_up h2
        rw [Poly.up_length] at h3
        have z0 : (((q.length : Nat) : Int) == 0) = false := beq_eq_false_iff_ne.2 (by omega)
        have z1 : ([] : List Int).length + (Poly.up p).length < 17592186044416 := by rw [Poly.up_length]; simp; omega
        have z2 : (0 : Int) ≤ (p.length : Int) := by omega
        have z3 : (p.length : Int).toNat ≤ 35184372088832 := by omega
        have z4 : (0 : Int) ≤ ((q.length - 1 : Nat) : Int) := by omega
        have z5 : ((q.length - 1 : Nat) : Int) < (q.length : Int) := by omega
        have e2 : wrap64 ((q.length : Int) - 1) = ((q.length - 1 : Nat) : Int) := by rw [wrap_id (by omega) (by omega)]; omega
        simp only [if_true, Bool.and_self, Poly.up_length, h3, decide_true, toNat_up, z0]
        refine Ev.step (f := fun r => spec_DivPoly.l0 r (Poly.up q) (Poly.up p) (Poly.up (List.replicate p.length 0)) ((q.getD (q.length - 1) 0 : Nat) : Int) (wrap64 ((p.length : Int) - (q.length : Int)))) (fun r => ?_) ?_
        · rw [spec_DivPoly.j0.eq_2, if_neg (by decide), Option.bind_some, if_pos z1, Poly.up_length, if_pos z2, if_pos z3, Poly.up_length, e2, if_pos z4, if_pos z5, Poly.rd_up, List.nil_append, Int.toNat_natCast, Poly.up_zeros]
        · have hsm := div_same p q h3
          rw [← hsm.1, ← hsm.2]
          unfold divS
          by_cases h4 : q.length ≤ p.length + 1
          · have e3 : wrap64 ((p.length : Int) - (q.length : Int)) = ((p.length + 1 - q.length : Nat) : Int) - 1 := by rw [wrap_id (by omega) (by omega)]; omega
            rw [e3]
            exact spec_DivPoly_l q hq h3 (by omega) (p.length + 1 - q.length) _ p (Poly.AllB.zeros _) hp (by rw [List.length_replicate]; omega) (by omega) (by rw [List.length_replicate]; omega) (by omega)
          · have e4 : p.length + 1 - q.length = 0 := by omega
            rw [e4]
            have z6 : ¬ (wrap64 ((p.length : Int) - (q.length : Int)) ≥ 0) := by rw [wrap_id (by omega) (by omega)]; omega
            refine Ev.step (fun k => spec_DivPoly.l0.eq_2 _ _ _ _ _ k) ?_
            simp only [if_neg z6]
            exact Ev.bind (spec_l1Cut_ev _ (by rw [List.length_replicate]; omega)) (Ev.bind (spec_l1Cut_ev p (by omega)) (Ev.now _))
      · have z0 : (((m.length : Nat) : Int) == 0) = true := by rw [beq_iff_eq]; omega
        simp only [if_true, z0, h3, decide_false, Bool.and_false]
        exact no

theorem laws_sameInts_same (l : List Int) (hl : l.length ≤ 1000000) : Ev (fun k => laws_sameInts.f k l l) true := by
  have h : ∀ d i : Nat, i + d = l.length → Ev (fun k => laws_sameInts.l0 k l l (l.length : Int) (i : Int)) true := by
    intro d
    induction d with
    | zero =>
      intro i hi
      exact Ev.step (f := fun _ => some true) (fun k => by rw [laws_sameInts.l0.eq_2, if_neg (by omega)]) (Ev.now _)
    | succ d ih =>
      intro i hi
      refine Ev.step (f := fun k => laws_sameInts.l0 k l l (l.length : Int) ((i + 1 : Nat) : Int)) (fun k => ?_) (ih (i + 1) (by omega))
      rw [laws_sameInts.l0.eq_2, if_pos (by omega), if_pos (by omega), if_pos (by omega), if_pos (by omega), if_pos rfl, wrap_succ i (by omega)]
  unfold laws_sameInts.f
  simp only [if_pos]
  exact h l.length 0 (by omega)

theorem impl_eval_l0 (p : List Nat) (x : Nat) (hp : Poly.AllB p) (hx : x < 256) (hl : p.length ≤ 100000) : ∀ i : Nat, i ≤ p.length → Ev (fun k => impl_eval.l0 k (Poly.up p) (x : Int) ((Poly.gev (p.drop i) x : Nat) : Int) ((i : Int) - 1)) ((Poly.gev p x : Nat) : Int) := by
  intro i
  induction i with
  | zero =>
    intro _
    exact Ev.step (f := fun _ => some ((Poly.gev p x : Nat) : Int)) (fun k => by simp only [impl_eval.l0]; rw [if_neg (by omega)]; rfl) (Ev.now _)
  | succ i ih =>
    intro hi
    have hlt : i < p.length := by omega
    have e1 : ((i + 1 : Nat) : Int) - 1 = (i : Int) := by omega
    have hd : p.drop i = p.getD i 0 :: p.drop (i + 1) := by
      rw [List.drop_eq_getElem_cons hlt]
      simp [List.getD_eq_getElem?_getD, List.getElem?_eq_getElem hlt]
    have hv := Poly.gev_lt (hp.drop (i + 1)) x
    have hg := hp.get i
    have ih' := ih (by omega)
    rw [hd] at ih'
    rw [e1]
    have ex := xor_up (Gf.gm_lt x hv) hg
    refine Ev.step (f := fun k => (impl_mul.f k ((Poly.gev (p.drop (i + 1)) x : Nat) : Int) (x : Int)).bind fun t => impl_eval.l0 k (Poly.up p) (x : Int) (Go.bits .xor .i64 t ((p.getD i 0 : Nat) : Int)) ((i : Int) - 1)) (fun k => ?_) ?_
    · simp only [impl_eval.l0, Poly.rd_up, Poly.up_length, wrap_down i (by omega)]
      have z1 : (0 : Int) ≤ (i : Int) := by omega
      have z2 : (i : Int) < (p.length : Int) := by omega
      rw [if_pos (by omega)]
      simp only [if_pos z1, if_pos z2]
    · refine Ev.bind (impl_mul_ev _ _ hv hx) ?_
      rw [ex]
      exact ih'
theorem impl_eval_ev (p : List Nat) (x : Nat) (hp : Poly.AllB p) (hx : x < 256) (hl : p.length ≤ 100000) : Ev (fun k => impl_eval.f k (Poly.up p) (x : Int)) ((Poly.gev p x : Nat) : Int) := by
  have := impl_eval_l0 p x hp hx hl p.length (Nat.le_refl _)
  rw [List.drop_length] at this
  unfold impl_eval.f
  rw [Poly.up_length, wrap_down p.length (by omega)]
  exact this

theorem impl_EvalGf_ev (l : List Int) (a : Int) : Ev (fun k => impl_EvalGf.f k l a) (evalV l a) := by
  unfold impl_EvalGf.f evalV
  simp only [impl_isPoly_eq, impl_isGf_eq, Option.bind_some]
  cases h1 : isP l
  · exact Ev.now _
  · cases h2 : isB a
    · exact Ev.now _
    · obtain ⟨m, rfl, hm, hl, _⟩ := isP_up h1
      obtain ⟨x, rfl, hx⟩ := isB_nat h2
      simp only [if_true, Bool.and_self, toNat_up, Int.toNat_natCast]
      exact Ev.bind (impl_eval_ev m x hm hx (by omega)) (Ev.now _)

theorem spec_DrawMulPoly_ex {s : List Int} (hs : BY s) : ∃ p q, Ev (fun k => spec_DrawMulPoly.f k s) (p, q) ∧ p.length ≤ 1000 ∧ q.length ≤ 1000 := by
  obtain ⟨v, a0, d0, e0, h7, h8⟩ := spec_l1Cur_one_ex hs (a := 0) 0 20 (by omega) (by omega)
  unfold spec_DrawMulPoly.f
  simp only [e0, Option.bind_some]
  cases v
  · obtain ⟨p, a1, d1, e1, h1, h2, h3⟩ := spec_l1Cur_poly_ex hs d0 8 h7 (by omega) (by omega) (by omega)
    obtain ⟨q, a2, d2, e2, h4, h5, h6⟩ := spec_l1Cur_poly_ex hs d1 8 h2 (by omega) (by omega) (by omega)
    simp only [Bool.false_eq_true, if_false]
    exact ⟨p, q, Ev.bind e1 (Ev.bind e2 (Ev.now _)), h1, h4⟩
  · obtain ⟨p, a1, d1, e1, h1, h2, h3⟩ := spec_l1Cur_poly_ex hs d0 42 h7 (by omega) (by omega) (by omega)
    obtain ⟨q, a2, d2, e2, h4, h5, h6⟩ := spec_l1Cur_poly_ex hs d1 30 h2 (by omega) (by omega) (by omega)
    simp only [if_true]
    exact ⟨p, q, Ev.bind e1 (Ev.bind e2 (Ev.now _)), h1, h4⟩

theorem impl_mulPoly_l0 (p q : List Nat) (hp : Poly.AllB p) (hq : Poly.AllB q) (hpl : p.length ≤ 1000) (hql : q.length ≤ 1000) : ∀ (d i : Nat) (out : List Nat), i + d = p.length → out.length = p.length + q.length → Poly.AllB out →
    Ev (fun k => impl_mulPoly.l0 k (Poly.up q) (Poly.up out) (Poly.up p) (p.length : Int) (i : Int)) (Poly.up (Poly.tr (Poly.mpA q (p.drop i) i out))) := by
  intro d
  induction d with
  | zero =>
    intro i out hi hol hob
    obtain rfl : i = p.length := by omega
    rw [List.drop_length]
    refine Ev.step (f := fun k => (impl_trimmed.f k (Poly.up out)).bind fun t => some t) (fun k => ?_) (Ev.bind (f := fun _ t => some t) (impl_trimmed_ev out (by omega)) (Ev.now _))
    simp only [impl_mulPoly.l0]
    rw [if_neg (by omega)]
  | succ d ih =>
    intro i out hi hol hob
    have hlt : i < p.length := by omega
    have ha : p.getD i 0 < 256 := hp.get i
    have inner : ∀ (e j : Nat) (o : List Nat), j + e = q.length → o.length = p.length + q.length → Poly.AllB o →
        Ev (fun k => impl_mulPoly.l1 k (Poly.up q) (Poly.up o) (i : Int) ((p.getD i 0 : Nat) : Int) (Poly.up p) (p.length : Int) (i : Int) (Poly.up q) (q.length : Int) (j : Int)) (Poly.up (Poly.tr (Poly.mpA q (p.drop (i + 1)) (i + 1) (Poly.mrow (p.getD i 0) (q.drop j) (i + j) o)))) := by
      intro e
      induction e with
      | zero =>
        intro j o hj hol hob
        obtain rfl : j = q.length := by omega
        rw [List.drop_length]
        refine Ev.step (f := fun k => impl_mulPoly.l0 k (Poly.up q) (Poly.up o) (Poly.up p) (p.length : Int) ((i + 1 : Nat) : Int)) (fun k => ?_) (ih (i + 1) o (by omega) hol hob)
        simp only [impl_mulPoly.l1, wrap_succ i (by omega)]
        rw [if_neg (by omega)]
      | succ e ihe =>
        intro j o hj hol hob
        have hjl : j < q.length := by omega
        have hb : q.getD j 0 < 256 := hq.get j
        have hdrop : q.drop j = q.getD j 0 :: q.drop (j + 1) := by
          rw [List.drop_eq_getElem_cons hjl]
          simp [List.getD_eq_getElem?_getD, List.getElem?_eq_getElem hjl]
        rw [hdrop]
        unfold Poly.mrow
        have hx := xor_up (hob.get (i + j)) (Gf.gm_lt (q.getD j 0) ha)
        refine Ev.step (f := fun k => (impl_mul.f k ((p.getD i 0 : Nat) : Int) ((q.getD j 0 : Nat) : Int)).bind fun t => impl_mulPoly.l1 k (Poly.up q) ((Poly.up o).set (i + j) (Go.bits .xor .i64 ((o.getD (i + j) 0 : Nat) : Int) t)) (i : Int) ((p.getD i 0 : Nat) : Int) (Poly.up p) (p.length : Int) (i : Int) (Poly.up q) (q.length : Int) ((j + 1 : Nat) : Int)) (fun k => ?_) ?_
        · simp only [impl_mulPoly.l1, wrap_add i j (by omega), wrap_succ j (by omega), Poly.rd_up, Poly.up_length, Int.toNat_natCast]
          rw [if_pos (by omega), if_pos (by omega), if_pos (by omega), if_pos (by omega), if_pos (by omega)]
        · refine Ev.bind (f := fun k t => impl_mulPoly.l1 k (Poly.up q) ((Poly.up o).set (i + j) (Go.bits .xor .i64 ((o.getD (i + j) 0 : Nat) : Int) t)) (i : Int) ((p.getD i 0 : Nat) : Int) (Poly.up p) (p.length : Int) (i : Int) (Poly.up q) (q.length : Int) ((j + 1 : Nat) : Int)) (impl_mul_ev _ _ ha hb) ?_
          simp only [hx, Poly.up_set]
          have := ihe (j + 1) (o.set (i + j) (o.getD (i + j) 0 ^^^ Gf.gm (p.getD i 0) (q.getD j 0))) (by omega) (by rw [List.length_set]; exact hol) (hob.set _ (Gf.xor_byte (hob.get _) (Gf.gm_lt _ ha)))
          rw [show i + (j + 1) = i + j + 1 by omega] at this
          exact this
    have hdrop : p.drop i = p.getD i 0 :: p.drop (i + 1) := by
      rw [List.drop_eq_getElem_cons hlt]
      simp [List.getD_eq_getElem?_getD, List.getElem?_eq_getElem hlt]
    rw [hdrop]
    unfold Poly.mpA
    have := inner q.length 0 out (by omega) hol hob
    rw [List.drop_zero, Nat.add_zero] at this
    refine Ev.step (f := fun k => impl_mulPoly.l1 k (Poly.up q) (Poly.up out) (i : Int) ((p.getD i 0 : Nat) : Int) (Poly.up p) (p.length : Int) (i : Int) (Poly.up q) (q.length : Int) 0) (fun k => ?_) this
    simp only [impl_mulPoly.l0, Poly.rd_up, Poly.up_length]
    rw [if_pos (by omega), if_pos (by omega), if_pos (by omega)]
theorem impl_mulPoly_ev (p q : List Nat) (hp : Poly.AllB p) (hq : Poly.AllB q) (hpl : p.length ≤ 1000) (hql : q.length ≤ 1000) : Ev (fun k => impl_mulPoly.f k (Poly.up p) (Poly.up q)) (Poly.up (Poly.mulP p q)) := by
  unfold impl_mulPoly.f Poly.mulP
  have z1 : (0 : Int) ≤ ((p.length + q.length : Nat) : Int) := by omega
  have z2 : p.length + q.length ≤ 35184372088832 := by omega
  simp only [Poly.up_length, wrap_add p.length q.length (by omega), if_pos z1, Int.toNat_natCast, if_pos z2, Poly.up_zeros]
  exact impl_mulPoly_l0 p q hp hq hpl hql p.length 0 _ (by omega) (by simp) (Poly.AllB.zeros _)

/-- What MulPoly answers. -/
def mulV (l m : List Int) : List Int × Bool := if isP l && isP m && decide ((Poly.mulP (l.map Int.toNat) (m.map Int.toNat)).length ≤ 40) then (Poly.up (Poly.mulP (l.map Int.toNat) (m.map Int.toNat)), true) else ([], false)
theorem mulV_length (l m : List Int) : (mulV l m).1.length ≤ 40 := by
  unfold mulV
  split
  · rename_i h
    simp only [Bool.and_eq_true, decide_eq_true_eq] at h
    simp only [Poly.up_length]; omega
  · simp

theorem impl_MulPoly_ev (l m : List Int) : Ev (fun k => impl_MulPoly.f k l m) (mulV l m) := by
  have no : Ev (fun k => impl_MulPoly.j0 k l m true) (([] : List Int), false) := Ev.step (f := fun _ => some (([] : List Int), false)) (fun k => by simp only [impl_MulPoly.j0]; rfl) (Ev.now _)
  unfold impl_MulPoly.f mulV
  simp only [impl_isPoly_eq, Option.bind_some]
  cases h1 : isP l
  · exact no
  · simp only [if_true]
    cases h2 : isP m
    · exact no
    · obtain ⟨p, rfl, hp, hpl, _⟩ := isP_up h1
      obtain ⟨q, rfl, hq, hql, _⟩ := isP_up h2
      refine Ev.step (fun k => impl_MulPoly.j0.eq_2 _ _ _ k) ?_
      simp only [Bool.not_true, Bool.false_eq_true, if_false, toNat_up, Bool.true_and]
      refine Ev.bind (impl_mulPoly_ev p q hp hq (by omega) (by omega)) ?_
      by_cases h3 : (Poly.mulP p q).length ≤ 40
      · have z : ¬ ((Poly.up (Poly.mulP p q)).length : Int) > 40 := by rw [Poly.up_length]; omega
        simp only [if_neg z, decide_eq_true h3, if_true]
        exact Ev.now _
      · have z : ((Poly.up (Poly.mulP p q)).length : Int) > 40 := by rw [Poly.up_length]; omega
        simp only [if_pos z, decide_eq_false h3]
        exact Ev.now _

theorem spec_l1MulPoly_l0 (p q : List Nat) (hp : Poly.AllB p) (hq : Poly.AllB q) (hpl : p.length ≤ 1000) (hql : q.length ≤ 1000) : ∀ (d i : Nat) (out : List Nat), i + d = p.length → out.length = p.length + q.length → Poly.AllB out →
    Ev (fun k => spec_l1MulPoly.l0 k (Poly.up q) (Poly.up out) (Poly.up p) (p.length : Int) (i : Int)) (Poly.up (Poly.tr (Poly.mpA q (p.drop i) i out))) := by
  intro d
  induction d with
  | zero =>
    intro i out hi hol hob
    obtain rfl : i = p.length := by omega
    rw [List.drop_length]
    refine Ev.step (f := fun k => (spec_l1Cut.f k (Poly.up out)).bind fun t => some t) (fun k => ?_) (Ev.bind (f := fun _ t => some t) (spec_l1Cut_ev out (by omega)) (Ev.now _))
    simp only [spec_l1MulPoly.l0]
    rw [if_neg (by omega)]
  | succ d ih =>
    intro i out hi hol hob
    have hlt : i < p.length := by omega
    have ha : p.getD i 0 < 256 := hp.get i
    have inner : ∀ (e j : Nat) (o : List Nat), j + e = q.length → o.length = p.length + q.length → Poly.AllB o →
        Ev (fun k => spec_l1MulPoly.l1 k (Poly.up q) (Poly.up o) (i : Int) ((p.getD i 0 : Nat) : Int) (Poly.up p) (p.length : Int) (i : Int) (Poly.up q) (q.length : Int) (j : Int)) (Poly.up (Poly.tr (Poly.mpA q (p.drop (i + 1)) (i + 1) (Poly.mrow (p.getD i 0) (q.drop j) (i + j) o)))) := by
      intro e
      induction e with
      | zero =>
        intro j o hj hol hob
        obtain rfl : j = q.length := by omega
        rw [List.drop_length]
        refine Ev.step (f := fun k => spec_l1MulPoly.l0 k (Poly.up q) (Poly.up o) (Poly.up p) (p.length : Int) ((i + 1 : Nat) : Int)) (fun k => ?_) (ih (i + 1) o (by omega) hol hob)
        simp only [spec_l1MulPoly.l1, wrap_succ i (by omega)]
        rw [if_neg (by omega)]
      | succ e ihe =>
        intro j o hj hol hob
        have hjl : j < q.length := by omega
        have hb : q.getD j 0 < 256 := hq.get j
        have hdrop : q.drop j = q.getD j 0 :: q.drop (j + 1) := by
          rw [List.drop_eq_getElem_cons hjl]
          simp [List.getD_eq_getElem?_getD, List.getElem?_eq_getElem hjl]
        rw [hdrop]
        unfold Poly.mrow
        have hx := xor_up (hob.get (i + j)) (Gf.gm_lt (q.getD j 0) ha)
        refine Ev.step (f := fun k => (spec_l1Mul.f k ((p.getD i 0 : Nat) : Int) ((q.getD j 0 : Nat) : Int)).bind fun t => spec_l1MulPoly.l1 k (Poly.up q) ((Poly.up o).set (i + j) (Go.bits .xor .i64 ((o.getD (i + j) 0 : Nat) : Int) t)) (i : Int) ((p.getD i 0 : Nat) : Int) (Poly.up p) (p.length : Int) (i : Int) (Poly.up q) (q.length : Int) ((j + 1 : Nat) : Int)) (fun k => ?_) ?_
        · simp only [spec_l1MulPoly.l1, wrap_add i j (by omega), wrap_succ j (by omega), Poly.rd_up, Poly.up_length, Int.toNat_natCast]
          rw [if_pos (by omega), if_pos (by omega), if_pos (by omega), if_pos (by omega), if_pos (by omega)]
        · refine Ev.bind (f := fun k t => spec_l1MulPoly.l1 k (Poly.up q) ((Poly.up o).set (i + j) (Go.bits .xor .i64 ((o.getD (i + j) 0 : Nat) : Int) t)) (i : Int) ((p.getD i 0 : Nat) : Int) (Poly.up p) (p.length : Int) (i : Int) (Poly.up q) (q.length : Int) ((j + 1 : Nat) : Int)) (spec_l1Mul_ev _ _ ha hb) ?_
          simp only [hx, Poly.up_set]
          have := ihe (j + 1) (o.set (i + j) (o.getD (i + j) 0 ^^^ Gf.gm (p.getD i 0) (q.getD j 0))) (by omega) (by rw [List.length_set]; exact hol) (hob.set _ (Gf.xor_byte (hob.get _) (Gf.gm_lt _ ha)))
          rw [show i + (j + 1) = i + j + 1 by omega] at this
          exact this
    have hdrop : p.drop i = p.getD i 0 :: p.drop (i + 1) := by
      rw [List.drop_eq_getElem_cons hlt]
      simp [List.getD_eq_getElem?_getD, List.getElem?_eq_getElem hlt]
    rw [hdrop]
    unfold Poly.mpA
    have := inner q.length 0 out (by omega) hol hob
    rw [List.drop_zero, Nat.add_zero] at this
    refine Ev.step (f := fun k => spec_l1MulPoly.l1 k (Poly.up q) (Poly.up out) (i : Int) ((p.getD i 0 : Nat) : Int) (Poly.up p) (p.length : Int) (i : Int) (Poly.up q) (q.length : Int) 0) (fun k => ?_) this
    simp only [spec_l1MulPoly.l0, Poly.rd_up, Poly.up_length]
    rw [if_pos (by omega), if_pos (by omega), if_pos (by omega)]
theorem spec_l1MulPoly_ev (p q : List Nat) (hp : Poly.AllB p) (hq : Poly.AllB q) (hpl : p.length ≤ 1000) (hql : q.length ≤ 1000) : Ev (fun k => spec_l1MulPoly.f k (Poly.up p) (Poly.up q)) (Poly.up (Poly.mulP p q)) := by
  unfold spec_l1MulPoly.f Poly.mulP
  have z1 : (0 : Int) ≤ ((p.length + q.length : Nat) : Int) := by omega
  have z2 : p.length + q.length ≤ 35184372088832 := by omega
  simp only [Poly.up_length, wrap_add p.length q.length (by omega), if_pos z1, Int.toNat_natCast, if_pos z2, Poly.up_zeros]
  exact spec_l1MulPoly_l0 p q hp hq hpl hql p.length 0 _ (by omega) (by simp) (Poly.AllB.zeros _)

theorem spec_MulPoly_ev (l m : List Int) : Ev (fun k => spec_MulPoly.f k l m) (mulV l m) := by
  have no : Ev (fun k => spec_MulPoly.j0 k l m true) (([] : List Int), false) := Ev.step (f := fun _ => some (([] : List Int), false)) (fun k => by simp only [spec_MulPoly.j0]; rfl) (Ev.now _)
  unfold spec_MulPoly.f mulV
  refine Ev.bind (spec_l1Poly_ev l) ?_
  cases h1 : isP l
  · exact no
  · simp only [if_true]
    refine Ev.bind (spec_l1Poly_ev m) ?_
    cases h2 : isP m
    · exact no
    · obtain ⟨p, rfl, hp, hpl, _⟩ := isP_up h1
      obtain ⟨q, rfl, hq, hql, _⟩ := isP_up h2
      refine Ev.step (fun k => spec_MulPoly.j0.eq_2 _ _ _ k) ?_
      simp only [Bool.not_true, Bool.false_eq_true, if_false, toNat_up, Bool.true_and]
      refine Ev.bind (spec_l1MulPoly_ev p q hp hq (by omega) (by omega)) ?_
      by_cases h3 : (Poly.mulP p q).length ≤ 40
      · have z : ¬ ((Poly.up (Poly.mulP p q)).length : Int) > 40 := by rw [Poly.up_length]; omega
        simp only [if_neg z, decide_eq_true h3, if_true]
        exact Ev.now _
      · have z : ((Poly.up (Poly.mulP p q)).length : Int) > 40 := by rw [Poly.up_length]; omega
        simp only [if_pos z, decide_eq_false h3]
        exact Ev.now _

theorem spec_l1Cur_among_ex {s : List Int} (hs : BY s) {a : Int} (d : Int) (l : List Int) (ha : 0 ≤ a) (hb : a ≤ 900000000000) (hl : 0 < l.length) : ∃ v a' d', spec_l1Cur_among.f s a d l = some (v, a', d') ∧ v ∈ l ∧ 0 ≤ a' ∧ a' ≤ a + 2 := by
  obtain ⟨v, a1, d1, e1, h2, h3, h4, h5, h6⟩ := spec_l1Cur_pick_ex hs d (l.length : Int) ha hb
  have hv : v < (l.length : Int) := by omega
  obtain ⟨i, rfl⟩ := nat_of h2
  have hi : i < l.length := by omega
  unfold spec_l1Cur_among.f
  rw [e1, Option.bind_some, if_pos h2, if_pos hv]
  exact ⟨_, _, _, rfl, by rw [rd_nat l i hi]; exact List.getElem_mem hi, h5, h6⟩

theorem spec_l1Cur_gf_ex {s : List Int} (hs : BY s) {a : Int} (d : Int) (ha : 0 ≤ a) (hb : a ≤ 800000000000) : ∃ v a' d', spec_l1Cur_gf.f s a d = some (v, a', d') ∧ -1 ≤ v ∧ v ≤ 256 ∧ 0 ≤ a' ∧ a' ≤ a + 4 := by
  obtain ⟨v, a1, d1, e1, h1, h2⟩ := spec_l1Cur_one_ex hs d 30 ha (by omega)
  unfold spec_l1Cur_gf.f
  rw [e1, Option.bind_some]
  by_cases h : v = true
  · obtain ⟨x, a2, d2, e2, h3, h4, h5⟩ := spec_l1Cur_among_ex hs d1 ([(-1), 256] : List Int) h1 (by omega) (by decide)
    simp only [h, if_true, e2, Option.bind_some]
    simp only [List.mem_cons, List.not_mem_nil, or_false] at h3
    exact ⟨_, _, _, rfl, by omega, by omega, by omega, by omega⟩
  · obtain ⟨x, a2, d2, e2, h3, h4, _, h5, h6⟩ := spec_l1Cur_pick_ex hs d1 256 h1 (by omega)
    simp only [h, Bool.false_eq_true, if_false, e2, Option.bind_some]
    exact ⟨_, _, _, rfl, by omega, by omega, by omega, by omega⟩

theorem spec_DrawEvalGf_ex {s : List Int} (hs : BY s) : ∃ p x, Ev (fun k => spec_DrawEvalGf.f k s) (p, x) ∧ p.length ≤ 1000 := by
  obtain ⟨p, a1, d1, e1, h1, h2, h3⟩ := spec_l1Cur_poly_ex hs (a := 0) 0 8 (by omega) (by omega) (by omega) (by omega)
  obtain ⟨v, a2, d2, e2, _, _, h4, h5⟩ := spec_l1Cur_gf_ex hs d1 h2 (by omega)
  refine ⟨p, v, Ev.bind e1 ?_, h1⟩
  simp only [e2, Option.bind_some]
  exact Ev.now _

theorem spec_l1Eval_l0 (p : List Nat) (x : Nat) (hp : Poly.AllB p) (hx : x < 256) (hl : p.length ≤ 100000) : ∀ i : Nat, i ≤ p.length → Ev (fun k => spec_l1Eval.l0 k (Poly.up p) (x : Int) ((Poly.gev (p.drop i) x : Nat) : Int) ((i : Int) - 1)) ((Poly.gev p x : Nat) : Int) := by
  intro i
  induction i with
  | zero =>
    intro _
    exact Ev.step (f := fun _ => some ((Poly.gev p x : Nat) : Int)) (fun k => by simp only [spec_l1Eval.l0]; rw [if_neg (by omega)]; rfl) (Ev.now _)
  | succ i ih =>
    intro hi
    have hlt : i < p.length := by omega
    have e1 : ((i + 1 : Nat) : Int) - 1 = (i : Int) := by omega
    have hd : p.drop i = p.getD i 0 :: p.drop (i + 1) := by
      rw [List.drop_eq_getElem_cons hlt]
      simp [List.getD_eq_getElem?_getD, List.getElem?_eq_getElem hlt]
    have hv := Poly.gev_lt (hp.drop (i + 1)) x
    have hg := hp.get i
    have ih' := ih (by omega)
    rw [hd] at ih'
    rw [e1]
    have ex := xor_up (Gf.gm_lt x hv) hg
    refine Ev.step (f := fun k => (spec_l1Mul.f k ((Poly.gev (p.drop (i + 1)) x : Nat) : Int) (x : Int)).bind fun t => spec_l1Eval.l0 k (Poly.up p) (x : Int) (Go.bits .xor .i64 t ((p.getD i 0 : Nat) : Int)) ((i : Int) - 1)) (fun k => ?_) ?_
    · simp only [spec_l1Eval.l0, Poly.rd_up, Poly.up_length, wrap_down i (by omega)]
      have z1 : (0 : Int) ≤ (i : Int) := by omega
      have z2 : (i : Int) < (p.length : Int) := by omega
      rw [if_pos (by omega)]
      simp only [if_pos z1, if_pos z2]
    · refine Ev.bind (spec_l1Mul_ev _ _ hv hx) ?_
      rw [ex]
      exact ih'
theorem spec_l1Eval_ev (p : List Nat) (x : Nat) (hp : Poly.AllB p) (hx : x < 256) (hl : p.length ≤ 100000) : Ev (fun k => spec_l1Eval.f k (Poly.up p) (x : Int)) ((Poly.gev p x : Nat) : Int) := by
  have := spec_l1Eval_l0 p x hp hx hl p.length (Nat.le_refl _)
  rw [List.drop_length] at this
  unfold spec_l1Eval.f
  rw [Poly.up_length, wrap_down p.length (by omega)]
  exact this

theorem spec_EvalGf_ev (l : List Int) (a : Int) : Ev (fun k => spec_EvalGf.f k l a) (evalV l a) := by
  unfold spec_EvalGf.f evalV
  refine Ev.bind (spec_l1Poly_ev l) ?_
  simp only [spec_l1Gf_eq, Option.bind_some]
  cases h1 : isP l
  · exact Ev.now _
  · cases h2 : isB a
    · exact Ev.now _
    · obtain ⟨m, rfl, hm, hl, _⟩ := isP_up h1
      obtain ⟨x, rfl, hx⟩ := isB_nat h2
      simp only [if_true, Bool.and_self, toNat_up, Int.toNat_natCast]
      exact Ev.bind (spec_l1Eval_ev m x hm hx (by omega)) (Ev.now _)

theorem isP_eval {m : List Nat} {x : Nat} (h : isP (Poly.up m) = true) (hx : x < 256) : evalV (Poly.up m) (x : Int) = (((Poly.gev m x : Nat) : Int), true) := by
  unfold evalV
  rw [h, isB_cast hx, toNat_up]; rfl
/-- Quotient and rest. -/
theorem div_facts {m n : List Nat} (hm : Poly.AllB m) (hn : Poly.AllB n) (hml : m.length ≤ 40) (hnl : n.length ≤ 40) (hn0 : n ≠ []) (ht : n.getD (n.length - 1) 0 ≠ 0) :
    isP (Poly.up (Poly.tr (divI m n).1)) = true ∧ isP (Poly.up (Poly.tr (divI m n).2)) = true ∧ (Poly.tr (divI m n).2).length < n.length ∧
      ∀ x, x < 256 → Gf.gm (Poly.gev n x) (Poly.gev (Poly.tr (divI m n).1) x) ^^^ Poly.gev (Poly.tr (divI m n).2) x = Poly.gev m x := by
  have hn1 : 0 < n.length := List.length_pos_iff.2 hn0
  have last := fun l => Pev.tr_last l
  by_cases h0 : m.length + 1 - n.length = 0
  · have e : divI m n = ([], m) := by unfold divI; rw [h0]; rfl
    rw [e]
    refine ⟨up_isP (Poly.tr_bytes Poly.AllB.nil) (Nat.le_trans (Poly.tr_length _) (by simp)) (last _), up_isP (Poly.tr_bytes hm) (Nat.le_trans (Poly.tr_length _) hml) (last _), ?_, fun x hx => ?_⟩
    · have := Poly.tr_length m
      show (Poly.tr m).length < n.length
      omega
    · simp only [Pev.gev_pe, Pev.tr_eval hx hm, Pev.tr_eval hx Poly.AllB.nil]
      show Gf.gm (Root.pe n x) 0 ^^^ Root.pe m x = Root.pe m x
      rw [Gf.gm_zero, Nat.zero_xor]
  · have hi : m.length + 1 - n.length + n.length = m.length + 1 := by omega
    have hb := Pev.dvA_bytes (q := n) (Gf.gi (n.getD (n.length - 1) 0)) (m.length + 1 - n.length) (Poly.AllB.zeros (m.length + 1 - n.length)) hm
    have hl := Pev.dvA_length n (Gf.gi (n.getD (n.length - 1) 0)) (m.length + 1 - n.length) (List.replicate (m.length + 1 - n.length) 0) m
    have hr := Pev.dvA_rest hn hn0 ht (m.length + 1 - n.length) (quo := List.replicate (m.length + 1 - n.length) 0) hm (by omega) (fun j hj => Pev.getD_out (by omega))
    have he := fun (x : Nat) (hx : x < 256) => Pev.dvA_eval hx hn (Gf.gi (n.getD (n.length - 1) 0)) (m.length + 1 - n.length) (Poly.AllB.zeros (m.length + 1 - n.length)) hm (by rw [List.length_replicate]; exact Nat.le_refl _) (by omega) hn0 (fun j _ => Pev.getD_zeros _ j)
    rw [List.length_replicate] at hl
    change Poly.AllB (divI m n).1 ∧ Poly.AllB (divI m n).2 at hb
    change (divI m n).1.length = _ ∧ (divI m n).2.length = _ at hl
    change ∀ j, n.length ≤ j + 1 → (divI m n).2.getD j 0 = 0 at hr
    have h1 := Poly.tr_length (divI m n).1
    have h2 := Poly.tr_length (divI m n).2
    refine ⟨up_isP (Poly.tr_bytes hb.1) (by omega) (last _), up_isP (Poly.tr_bytes hb.2) (by omega) (last _), ?_, fun x hx => ?_⟩
    · have := Pev.tr_length_le (l := (divI m n).2) (n := n.length - 1) (fun j hj => hr j (by omega))
      omega
    · have h3 := he x hx
      rw [Pev.zeros_eval, Gf.zero_gm, Nat.zero_xor] at h3
      simp only [Pev.gev_pe, Pev.tr_eval hx hb.1, Pev.tr_eval hx hb.2]
      rw [Gf.gm_comm (Root.pe_lt x hn) (Root.pe_lt x hb.1)]
      exact h3
theorem mul_facts {m n : List Nat} (hm : Poly.AllB m) (hn : Poly.AllB n) (h : (Poly.mulP m n).length ≤ 40) :
    isP (Poly.up (Poly.mulP m n)) = true ∧ ∀ x, x < 256 → Poly.gev (Poly.mulP m n) x = Gf.gm (Poly.gev m x) (Poly.gev n x) :=
  ⟨up_isP (Poly.mulP_bytes n hm) h (Pev.tr_last _), fun x hx => by simp only [Pev.gev_pe]; exact Pev.mulP_eval hx hm hn⟩

theorem evalI_c (l : List Int) (a p : Int) (q : Bool) (h : evalV l a = (p, q)) {A : Option Addr} {n : Nat} (hn : l.length ≤ n) (w : World) (h1 : (Kd.int .i64).C w A l.length l) : Calls Try.prog 67 #[.slice A l.length n, .int .i64 a] w fun e w' => e = .returned (.tuple #[.int .i64 p, .bool q]) ∧ Below w.heap.size w w' := by
  obtain ⟨K, hK⟩ := (impl_EvalGf_ev l a).rounds
  rw [h] at hK
  exact (impl_EvalGf.calls K A n l a p q w h1 hn hK).mono fun e w' ⟨he, hd⟩ => ⟨he, hd.below⟩

theorem evalS_c (l : List Int) (a p : Int) (q : Bool) (h : evalV l a = (p, q)) {A : Option Addr} {n : Nat} (hn : l.length ≤ n) (w : World) (h1 : (Kd.int .i64).C w A l.length l) : Calls Try.prog 72 #[.slice A l.length n, .int .i64 a] w fun e w' => e = .returned (.tuple #[.int .i64 p, .bool q]) ∧ Below w.heap.size w w' := by
  obtain ⟨K, hK⟩ := (spec_EvalGf_ev l a).rounds
  rw [h] at hK
  exact (spec_EvalGf.calls K A n l a p q w h1 hn hK).mono fun e w' ⟨he, hd⟩ => ⟨he, hd.below⟩

theorem sameI_c (l : List Int) (hl : l.length ≤ 1000000) {A B : Option Addr} {n m : Nat} (hn : l.length ≤ n) (hm : l.length ≤ m) (w : World) (h1 : (Kd.int .i64).C w A l.length l) (h2 : (Kd.int .i64).C w B l.length l) : Calls Try.prog 66 #[.slice A l.length n, .slice B l.length m] w fun e w' => e = .returned (.bool true) ∧ Below w.heap.size w w' := by
  obtain ⟨K, hK⟩ := (laws_sameInts_same l hl).rounds
  exact (laws_sameInts.calls K A n l B m l true w h1 hn h2 hm hK).mono fun e w' ⟨he, hd⟩ => ⟨he, hd.below⟩

theorem mulGf_nat {x y : Nat} (hx : x < 256) (hy : y < 256) : mulGf (x : Int) (y : Int) = (((Gf.gm x y : Nat) : Int), true) := by
  unfold mulGf
  rw [isB_cast hx, isB_cast hy]; rfl
theorem mulI1_c (a b p : Int) (q : Bool) (h : mulGf a b = (p, q)) (w : World) : Calls Try.prog 16 #[.int .i64 a, .int .i64 b] w fun e w' => e = .returned (.tuple #[.int .i64 p, .bool q]) ∧ Below w.heap.size w w' := by
  obtain ⟨K, hK⟩ := (impl_MulGf_ev a b).rounds
  rw [h] at hK
  exact (impl_MulGf.calls K a b p q w hK).mono fun e w' ⟨he, hd⟩ => ⟨he, hd.below⟩

set_option maxHeartbeats 4000000 in
set_option maxRecDepth 100000 in
theorem laws_FnPolys_calls (A0 : Option Addr) (c0 : Nat) (l0 : List Int) (A1 : Option Addr) (c1 : Nat) (l1 : List Int) (w : World) (hr0 : (Kd.int .u8).C w A0 l0.length l0) (hc0 : l0.length ≤ c0) (y0 : l0.length * 1 ≤ 140737488351232) (hw0 : ∀ x ∈ l0, (Lit.int .u8 x).wf = true)
    (hr1 : (Kd.int .u8).C w A1 l1.length l1) (hc1 : l1.length ≤ c1) (y1 : l1.length * 1 ≤ 140737488351232) (hw1 : ∀ x ∈ l1, (Lit.int .u8 x).wf = true) :
    Calls Try.prog 11 #[.slice A0 l0.length c0, .slice A1 l1.length c1] w fun e w' => e = .returned (.bool true) ∧ Below w.heap.size w w' := by
  have HB := Aside0.mk (Below.refl w.heap.size w)
  have HR1 := Aside0.mk hr1
  have HC0 := Aside0.mk hc0
  have HC1 := Aside0.mk hc1
  by_cases hlen : l0.length + l1.length ≤ 1048576
  rotate_left
  · clear hr0 hr1 hc0 hc1
    go_enter Try.func11, Try.ntmps11
    go_wp2
    go_ret
    exact ⟨rfl, HB.out⟩
  obtain ⟨p, q, hd1, hp1, hq1⟩ := spec_DrawDivPoly_ex (wf_BY hw0)
  obtain ⟨u, v, hd2, hu1, hv1⟩ := spec_DrawMulPoly_ex (wf_BY hw1)
  obtain ⟨g, y, hd3, hg1⟩ := spec_DrawEvalGf_ex (wf_BY hw1)
  obtain ⟨nn, hnE, hn3⟩ := laws_numberOf_ex (wf_BY hw1) (by omega)
  obtain ⟨KN, hN⟩ := hnE.rounds
  obtain ⟨K1, hd1⟩ := hd1.rounds
  obtain ⟨K2, hd2⟩ := hd2.rounds
  obtain ⟨K3, hd3⟩ := hd3.rounds
  have cD1 := fun w (h : (Kd.int .u8).C w A0 l0.length l0) => spec_DrawDivPoly.calls K1 A0 c0 l0 p q w h HC0.out hd1
  have cD2 := fun w (h : (Kd.int .u8).C w A1 l1.length l1) => spec_DrawMulPoly.calls K2 A1 c1 l1 u v w h HC1.out hd2
  have cD3 := fun w (h : (Kd.int .u8).C w A1 l1.length l1) => spec_DrawEvalGf.calls K3 A1 c1 l1 g y w h HC1.out hd3
  have cN := fun w (h : (Kd.int .u8).C w A1 l1.length l1) => (laws_numberOf.calls KN A1 c1 l1 (nn : Int) w h HC1.out hN).mono (R' := fun e w' => e = .returned (.int .i64 (nn : Int)) ∧ Below w.heap.size w w') fun e w' ⟨he, hd⟩ => ⟨he, hd.below⟩
  clear hd1 hd2 hd3 hnE hN hw0 hw1 hr1 hc0 hc1
  have HR0 := Aside0.mk hr0
  clear hr0
  obtain ⟨d, r, q1, hm⟩ : ∃ d r q1, divPV p q = (d, r, q1) := ⟨_, _, _, rfl⟩
  obtain ⟨m, q2, hmm⟩ : ∃ m q2, mulV u v = (m, q2) := ⟨_, _, rfl⟩
  obtain ⟨z, q3, hz⟩ : ∃ z q3, evalV g y = (z, q3) := ⟨_, _, rfl⟩
  have hdl : d.length ≤ 41 ∧ r.length ≤ 41 := by have := divPV_length p q; rw [hm] at this; exact this
  have hml : m.length ≤ 40 := by have := mulV_length u v; rw [hmm] at this; exact this
  obtain ⟨K4, h4⟩ := (impl_DivPoly_ev p q).rounds
  obtain ⟨K5, h5⟩ := (spec_DivPoly_ev p q).rounds
  obtain ⟨K6, h6⟩ := (impl_MulPoly_ev u v).rounds
  obtain ⟨K7, h7⟩ := (spec_MulPoly_ev u v).rounds
  rw [hm] at h4 h5
  rw [hmm] at h6 h7
  have x1 : (q1 != q1) = false := by simp
  have x2 : (q2 != q2) = false := by simp
  have x3 : (q3 != q3) = false := by simp
  have e1 : (nn : Int) % 256 = ((nn % 256 : Nat) : Int) := by omega
  have e2 : Int.tmod (nn : Int) 256 = ((nn % 256 : Nat) : Int) := rfl
  have hc : nn % 256 < 256 := Nat.mod_lt _ (by decide)
  generalize nn % 256 = c at e1 e2 hc
  have cd4 := fun (A B : Option Addr) (n m : Nat) (hn : p.length ≤ n) (hm : q.length ≤ m) w (hp : (Kd.int .i64).C w A p.length p) (hq : (Kd.int .i64).C w B q.length q) => impl_DivPoly.calls K4 A n p B m q d r q1 w hp hn hq hm h4
  have cd5 := fun (A B : Option Addr) (n m : Nat) (hn : p.length ≤ n) (hm : q.length ≤ m) w (hp : (Kd.int .i64).C w A p.length p) (hq : (Kd.int .i64).C w B q.length q) => spec_DivPoly.calls K5 A n p B m q d r q1 w hp hn hq hm h5
  have cd6 := fun (A B : Option Addr) (n k : Nat) (hn : u.length ≤ n) (hm : v.length ≤ k) w (hp : (Kd.int .i64).C w A u.length u) (hq : (Kd.int .i64).C w B v.length v) => impl_MulPoly.calls K6 A n u B k v m q2 w hp hn hq hm h6
  have cd7 := fun (A B : Option Addr) (n k : Nat) (hn : u.length ≤ n) (hm : v.length ≤ k) w (hp : (Kd.int .i64).C w A u.length u) (hq : (Kd.int .i64).C w B v.length v) => spec_MulPoly.calls K7 A n u B k v m q2 w hp hn hq hm h7
  clear h4 h5 h6 h7
  have sm := fun (l : List Int) (hl : l.length ≤ 1000000) => @sameI_c l hl
  go_enter Try.func11, Try.ntmps11
  go_wp2_with fail
  refine (cD1 _ HR0.out).mono ?_
  rintro e w1 ⟨va, vb, rfl, hva, hvb, hb⟩
  replace HB := Aside0.mk hb
  replace HR1 := Aside0.mk (Kd.C_below HR1.out hb)
  obtain ⟨A2, n2, rfl, hn2, hC2⟩ := Kd.R_reads hva
  obtain ⟨A3, n3, rfl, hn3, hC3⟩ := Kd.R_reads hvb
  have HP := Aside0.mk hC2
  have HQ := Aside0.mk hC3
  have HN2 := Aside0.mk hn2
  have HN3 := Aside0.mk hn3
  clear hb HR0 hva hvb hC2 hC3 hn2 hn3
  go_wp2_with fail
  refine (cd4 A2 A3 n2 n3 HN2.out HN3.out _ HP.out HQ.out).mono ?_
  rintro e w2 ⟨va, vb, rfl, hva, hvb, hb⟩
  obtain ⟨A4, n4, rfl, hn4, hC4⟩ := Kd.R_reads hva
  obtain ⟨A5, n5, rfl, hn5, hC5⟩ := Kd.R_reads hvb
  have HD := Aside0.mk hC4
  have HE := Aside0.mk hC5
  have HN4 := Aside0.mk hn4
  have HN5 := Aside0.mk hn5
  clear hva hvb hC4 hC5 hn4 hn5
  replace HB := Aside0.mk (HB.out.trans (hb.mono HB.out.size))
  replace HR1 := Aside0.mk (Kd.C_below HR1.out hb)
  replace HP := Aside0.mk (Kd.C_below HP.out hb)
  replace HQ := Aside0.mk (Kd.C_below HQ.out hb)
  clear hb
  go_wp2_with fail
  refine (cd5 A2 A3 n2 n3 HN2.out HN3.out _ HP.out HQ.out).mono ?_
  rintro e w3 ⟨va, vb, rfl, hva, hvb, hb⟩
  obtain ⟨A6, n6, rfl, hn6, hC6⟩ := Kd.R_reads hva
  obtain ⟨A7, n7, rfl, hn7, hC7⟩ := Kd.R_reads hvb
  have HF := Aside0.mk hC6
  have HG := Aside0.mk hC7
  have HN6 := Aside0.mk hn6
  have HN7 := Aside0.mk hn7
  clear hva hvb hC6 hC7 hn6 hn7
  replace HB := Aside0.mk (HB.out.trans (hb.mono HB.out.size))
  replace HR1 := Aside0.mk (Kd.C_below HR1.out hb)
  replace HP := Aside0.mk (Kd.C_below HP.out hb)
  replace HQ := Aside0.mk (Kd.C_below HQ.out hb)
  replace HD := Aside0.mk (Kd.C_below HD.out hb)
  replace HE := Aside0.mk (Kd.C_below HE.out hb)
  clear hb
  go_wp2_with fail
  refine (sameI_c d (by omega) HN4.out HN6.out _ HD.out HF.out).mono ?_
  rintro e w4 ⟨rfl, hb⟩
  replace HB := Aside0.mk (HB.out.trans (hb.mono HB.out.size))
  replace HR1 := Aside0.mk (Kd.C_below HR1.out hb)
  replace HP := Aside0.mk (Kd.C_below HP.out hb)
  replace HQ := Aside0.mk (Kd.C_below HQ.out hb)
  replace HD := Aside0.mk (Kd.C_below HD.out hb)
  replace HE := Aside0.mk (Kd.C_below HE.out hb)
  replace HF := Aside0.mk (Kd.C_below HF.out hb)
  replace HG := Aside0.mk (Kd.C_below HG.out hb)
  clear hb
  go_wp2_with fail
  refine (sameI_c r (by omega) HN5.out HN7.out _ HE.out HG.out).mono ?_
  rintro e w5 ⟨rfl, hb⟩
  replace HB := Aside0.mk (HB.out.trans (hb.mono HB.out.size))
  replace HR1 := Aside0.mk (Kd.C_below HR1.out hb)
  replace HP := Aside0.mk (Kd.C_below HP.out hb)
  replace HQ := Aside0.mk (Kd.C_below HQ.out hb)
  replace HD := Aside0.mk (Kd.C_below HD.out hb)
  replace HE := Aside0.mk (Kd.C_below HE.out hb)
  replace HF := Aside0.mk (Kd.C_below HF.out hb)
  replace HG := Aside0.mk (Kd.C_below HG.out hb)
  clear hb
  clear HF HG HN6 HN7 cd4 cd5
  go_wp2_with fail
  refine (cN _ HR1.out).mono ?_
  rintro e w6 ⟨rfl, hb⟩
  replace HB := Aside0.mk (HB.out.trans (hb.mono HB.out.size))
  replace HR1 := Aside0.mk (Kd.C_below HR1.out hb)
  replace HP := Aside0.mk (Kd.C_below HP.out hb)
  replace HQ := Aside0.mk (Kd.C_below HQ.out hb)
  replace HD := Aside0.mk (Kd.C_below HD.out hb)
  replace HE := Aside0.mk (Kd.C_below HE.out hb)
  clear hb
  clear cN
  go_upto_if 87 with (fail)
  go_cut [] (fun wc => Aside0 (Below w.heap.size w wc) ∧ Aside0 ((Kd.int .u8).C wc A1 l1.length l1))
  case first =>
    as_aux_lemma =>
      by_cases hv : (isP p && isP q && decide (0 < q.length)) = true
      rotate_left
      · have hq : divPV p q = ([], [], false) := if_neg hv
        rw [hm] at hq
        injection hq with hq1 hq2
        injection hq2 with hq2 hq3
        subst hq1 hq2 hq3
        clear hm hmm hz cD2 cD3 cd6 cd7 sm
        go_wp2
        go_meet
        exact ⟨HB, HR1⟩
      have hq := hm.symm.trans (if_pos hv)
      simp only [Bool.and_eq_true, decide_eq_true_eq] at hv
      obtain ⟨⟨hv1, hv2⟩, hv3⟩ := hv
      obtain ⟨p', rfl, hpb, hpl, _⟩ := isP_up hv1
      obtain ⟨q', rfl, hqb, hql, hqt⟩ := isP_up hv2
      rw [Poly.up_length] at hv3
      have hq0 : q' ≠ [] := fun h => by rw [h] at hv3; simp at hv3
      simp only [toNat_up] at hq
      injection hq with hq1 hq2
      injection hq2 with hq2 hq3
      obtain ⟨f1, f2, f3, f4⟩ := div_facts hpb hqb hpl hql hq0 (hqt.resolve_left hq0)
      have f5 := f4 c hc
      have b1 := Poly.gev_lt hqb c
      obtain ⟨d', hd', hdb, _⟩ := isP_up f1
      obtain ⟨r', hr', hrb, _⟩ := isP_up f2
      have hd2 := Poly.up_inj hd'
      have hr2 := Poly.up_inj hr'
      rw [hd2] at f1 f5 hq1
      rw [hr2] at f2 f3 f5 hq2
      subst hq1 hq2 hq3
      have b2 := Poly.gev_lt hdb c
      have b3 := Poly.gev_lt hrb c
      have k1 := fun w => evalI_c _ _ _ _ (isP_eval hv1 hc) (A := A2) HN2.out w
      have k2 := fun w => evalI_c _ _ _ _ (isP_eval hv2 hc) (A := A3) HN3.out w
      have k3 := fun w => evalI_c _ _ _ _ (isP_eval f1 hc) (A := A4) HN4.out w
      have k4 := fun w => evalI_c _ _ _ _ (isP_eval f2 hc) (A := A5) HN5.out w
      have k5 := mulI1_c _ _ _ _ (mulGf_nat b1 b2)
      have xe : Go.bits .xor .i64 ((Gf.gm (Poly.gev q' c) (Poly.gev d' c) : Nat) : Int) ((Poly.gev r' c : Nat) : Int) = ((Poly.gev p' c : Nat) : Int) := by
        rw [xor_nat (Nat.lt_trans (Gf.gm_lt _ b1) (by decide)) (Nat.lt_trans b3 (by decide)), f5]
      have lt : decide ((Poly.up r').length < (Poly.up q').length) = true := by
        rw [Poly.up_length, Poly.up_length]; exact decide_eq_true f3
      have lt2 : decide ((Poly.up q').length ≤ (Poly.up r').length) = false := by
        rw [Poly.up_length, Poly.up_length]; exact decide_eq_false (by omega)
      clear hm hmm hz cD2 cD3 cd6 cd7 sm hdl f1 f2 f4 f5 hd2 hr2 hd' hr' hv1 hv2 hqt b1 b2 b3 hq0
      go_wp2_with fail
      refine (k1 _ HP.out).mono ?_
      rintro e w11 ⟨rfl, hb⟩
      replace HB := Aside0.mk (HB.out.trans (hb.mono HB.out.size))
      replace HR1 := Aside0.mk (Kd.C_below HR1.out hb)
      replace HP := Aside0.mk (Kd.C_below HP.out hb)
      replace HQ := Aside0.mk (Kd.C_below HQ.out hb)
      replace HD := Aside0.mk (Kd.C_below HD.out hb)
      replace HE := Aside0.mk (Kd.C_below HE.out hb)
      clear hb
      go_wp2_with fail
      refine (k2 _ HQ.out).mono ?_
      rintro e w12 ⟨rfl, hb⟩
      replace HB := Aside0.mk (HB.out.trans (hb.mono HB.out.size))
      replace HR1 := Aside0.mk (Kd.C_below HR1.out hb)
      replace HP := Aside0.mk (Kd.C_below HP.out hb)
      replace HQ := Aside0.mk (Kd.C_below HQ.out hb)
      replace HD := Aside0.mk (Kd.C_below HD.out hb)
      replace HE := Aside0.mk (Kd.C_below HE.out hb)
      clear hb
      go_wp2_with fail
      refine (k3 _ HD.out).mono ?_
      rintro e w13 ⟨rfl, hb⟩
      replace HB := Aside0.mk (HB.out.trans (hb.mono HB.out.size))
      replace HR1 := Aside0.mk (Kd.C_below HR1.out hb)
      replace HP := Aside0.mk (Kd.C_below HP.out hb)
      replace HQ := Aside0.mk (Kd.C_below HQ.out hb)
      replace HD := Aside0.mk (Kd.C_below HD.out hb)
      replace HE := Aside0.mk (Kd.C_below HE.out hb)
      clear hb
      go_wp2_with fail
      refine (k4 _ HE.out).mono ?_
      rintro e w14 ⟨rfl, hb⟩
      replace HB := Aside0.mk (HB.out.trans (hb.mono HB.out.size))
      replace HR1 := Aside0.mk (Kd.C_below HR1.out hb)
      replace HP := Aside0.mk (Kd.C_below HP.out hb)
      replace HQ := Aside0.mk (Kd.C_below HQ.out hb)
      replace HD := Aside0.mk (Kd.C_below HD.out hb)
      replace HE := Aside0.mk (Kd.C_below HE.out hb)
      clear hb
      go_wp2_with fail
      (with_reducible refine (k5 _).mono ?_)
      rintro e w101 ⟨rfl, hb⟩
      replace HB := Aside0.mk (HB.out.trans (hb.mono HB.out.size))
      replace HR1 := Aside0.mk (Kd.C_below HR1.out hb)
      replace HP := Aside0.mk (Kd.C_below HP.out hb)
      replace HQ := Aside0.mk (Kd.C_below HQ.out hb)
      replace HD := Aside0.mk (Kd.C_below HD.out hb)
      replace HE := Aside0.mk (Kd.C_below HE.out hb)
      clear hb
      go_wp2
      go_meet
      exact ⟨HB, HR1⟩
  case rest =>
    as_aux_lemma =>
      clear HB HR1 HP HQ HD HE HN2 HN3 HN4 HN5 hdl hm x1 e1 e2
      obtain ⟨HB, HR1⟩ := hcut
      go_wp2_with fail
      refine (cD2 _ HR1.out).mono ?_
      rintro e w21 ⟨va, vb, rfl, hva, hvb, hb⟩
      obtain ⟨A2, n2, rfl, hn2, hC2⟩ := Kd.R_reads hva
      obtain ⟨A3, n3, rfl, hn3, hC3⟩ := Kd.R_reads hvb
      have HP := Aside0.mk hC2
      have HQ := Aside0.mk hC3
      have HN2 := Aside0.mk hn2
      have HN3 := Aside0.mk hn3
      clear hva hvb hC2 hC3 hn2 hn3
      replace HB := Aside0.mk (HB.out.trans (hb.mono HB.out.size))
      replace HR1 := Aside0.mk (Kd.C_below HR1.out hb)
      clear hb
      go_wp2_with fail
      refine (cd6 A2 A3 n2 n3 HN2.out HN3.out _ HP.out HQ.out).mono ?_
      rintro e w22 ⟨va, rfl, hva, hb⟩
      obtain ⟨A4, n4, rfl, hn4, hC4⟩ := Kd.R_reads hva
      have HD := Aside0.mk hC4
      have HN4 := Aside0.mk hn4
      clear hva hC4 hn4
      replace HB := Aside0.mk (HB.out.trans (hb.mono HB.out.size))
      replace HR1 := Aside0.mk (Kd.C_below HR1.out hb)
      replace HP := Aside0.mk (Kd.C_below HP.out hb)
      replace HQ := Aside0.mk (Kd.C_below HQ.out hb)
      clear hb
      go_wp2_with fail
      refine (cd7 A2 A3 n2 n3 HN2.out HN3.out _ HP.out HQ.out).mono ?_
      rintro e w23 ⟨va, rfl, hva, hb⟩
      obtain ⟨A6, n6, rfl, hn6, hC6⟩ := Kd.R_reads hva
      have HF := Aside0.mk hC6
      have HN6 := Aside0.mk hn6
      clear hva hC6 hn6
      replace HB := Aside0.mk (HB.out.trans (hb.mono HB.out.size))
      replace HR1 := Aside0.mk (Kd.C_below HR1.out hb)
      replace HP := Aside0.mk (Kd.C_below HP.out hb)
      replace HQ := Aside0.mk (Kd.C_below HQ.out hb)
      replace HD := Aside0.mk (Kd.C_below HD.out hb)
      clear hb
      go_wp2_with fail
      refine (sameI_c m (by omega) HN4.out HN6.out _ HD.out HF.out).mono ?_
      rintro e w24 ⟨rfl, hb⟩
      replace HB := Aside0.mk (HB.out.trans (hb.mono HB.out.size))
      replace HR1 := Aside0.mk (Kd.C_below HR1.out hb)
      replace HP := Aside0.mk (Kd.C_below HP.out hb)
      replace HQ := Aside0.mk (Kd.C_below HQ.out hb)
      replace HD := Aside0.mk (Kd.C_below HD.out hb)
      replace HF := Aside0.mk (Kd.C_below HF.out hb)
      clear hb
      clear HF HN6 cd6 cd7 cD2 sm
      go_upto_if 176 with (fail)
      go_cut [] (fun wc => Aside0 (Below w.heap.size w wc) ∧ Aside0 ((Kd.int .u8).C wc A1 l1.length l1))
      case first =>
        as_aux_lemma =>
          by_cases hv : (isP u && isP v && decide ((Poly.mulP (u.map Int.toNat) (v.map Int.toNat)).length ≤ 40)) = true
          rotate_left
          · have hq : mulV u v = ([], false) := if_neg hv
            rw [hmm] at hq
            injection hq with hq1 hq2
            subst hq1 hq2
            clear hmm hz cD3
            go_wp2
            go_meet
            exact ⟨HB, HR1⟩
          have hq := hmm.symm.trans (if_pos hv)
          simp only [Bool.and_eq_true, decide_eq_true_eq] at hv
          obtain ⟨⟨hw1, hw2⟩, hw3⟩ := hv
          obtain ⟨u', rfl, hub, hul, hut⟩ := isP_up hw1
          obtain ⟨v', rfl, hvb, hvl, hvt⟩ := isP_up hw2
          simp only [toNat_up] at hq hw3
          injection hq with hq1 hq2
          obtain ⟨f1, f2⟩ := mul_facts hub hvb hw3
          have f3 := f2 c hc
          have f4 : u' ≠ [] → v' ≠ [] → (Poly.mulP u' v').length = u'.length + v'.length - 1 := fun h1 h2 => Pev.mulP_length_eq hub hvb h1 h2 (hut.resolve_left h1) (hvt.resolve_left h2)
          subst hq1 hq2
          have b1 := Poly.gev_lt hub c
          have b2 := Poly.gev_lt hvb c
          have k1 := fun w => evalI_c _ _ _ _ (isP_eval hw1 hc) (A := A2) HN2.out w
          have k2 := fun w => evalI_c _ _ _ _ (isP_eval hw2 hc) (A := A3) HN3.out w
          have k3 := fun w => evalI_c _ _ _ _ (isP_eval f1 hc) (A := A4) HN4.out w
          have k5 := mulI1_c _ _ _ _ (mulGf_nat b1 b2)
          rw [← f3] at k5
          have lu : (Poly.up u').length = u'.length := Poly.up_length _
          have lv : (Poly.up v').length = v'.length := Poly.up_length _
          have lm : (Poly.up (Poly.mulP u' v')).length = (Poly.mulP u' v').length := Poly.up_length _
          have g1 : u'.length = 0 ∨ (decide (0 < (Poly.up u').length) = true ∧ u' ≠ []) := by
            rcases Nat.eq_zero_or_pos u'.length with h | h
            · exact .inl h
            · exact .inr ⟨decide_eq_true (by omega), fun e => by rw [e] at h; simp at h⟩
          have g2 : v'.length = 0 ∨ (decide (0 < (Poly.up v').length) = true ∧ v' ≠ []) := by
            rcases Nat.eq_zero_or_pos v'.length with h | h
            · exact .inl h
            · exact .inr ⟨decide_eq_true (by omega), fun e => by rw [e] at h; simp at h⟩
          clear hmm hz cD3 f1 f2 f3 hw1 hw2 hut hvt b1 b2
          rcases g1 with g1 | ⟨g1, h1⟩
          · have s1 : decide (0 < (Poly.up u').length) = false := decide_eq_false (by omega)
            clear lu lv lm g2 f4 g1
            go_wp2_with fail
            refine (k1 _ HP.out).mono ?_
            rintro e w31 ⟨rfl, hb⟩
            replace HB := Aside0.mk (HB.out.trans (hb.mono HB.out.size))
            replace HR1 := Aside0.mk (Kd.C_below HR1.out hb)
            replace HP := Aside0.mk (Kd.C_below HP.out hb)
            replace HQ := Aside0.mk (Kd.C_below HQ.out hb)
            replace HD := Aside0.mk (Kd.C_below HD.out hb)
            clear hb
            go_wp2_with fail
            refine (k2 _ HQ.out).mono ?_
            rintro e w32 ⟨rfl, hb⟩
            replace HB := Aside0.mk (HB.out.trans (hb.mono HB.out.size))
            replace HR1 := Aside0.mk (Kd.C_below HR1.out hb)
            replace HP := Aside0.mk (Kd.C_below HP.out hb)
            replace HQ := Aside0.mk (Kd.C_below HQ.out hb)
            replace HD := Aside0.mk (Kd.C_below HD.out hb)
            clear hb
            go_wp2_with fail
            refine (k3 _ HD.out).mono ?_
            rintro e w33 ⟨rfl, hb⟩
            replace HB := Aside0.mk (HB.out.trans (hb.mono HB.out.size))
            replace HR1 := Aside0.mk (Kd.C_below HR1.out hb)
            replace HP := Aside0.mk (Kd.C_below HP.out hb)
            replace HQ := Aside0.mk (Kd.C_below HQ.out hb)
            replace HD := Aside0.mk (Kd.C_below HD.out hb)
            clear hb
            go_wp2_with fail
            (with_reducible refine (k5 _).mono ?_)
            rintro e w102 ⟨rfl, hb⟩
            replace HB := Aside0.mk (HB.out.trans (hb.mono HB.out.size))
            replace HR1 := Aside0.mk (Kd.C_below HR1.out hb)
            replace HP := Aside0.mk (Kd.C_below HP.out hb)
            replace HQ := Aside0.mk (Kd.C_below HQ.out hb)
            replace HD := Aside0.mk (Kd.C_below HD.out hb)
            clear hb
            go_wp2
            go_meet
            exact ⟨HB, HR1⟩
          rcases g2 with g2 | ⟨g2, h2⟩
          · have s1 : decide (0 < (Poly.up v').length) = false := decide_eq_false (by omega)
            clear lu lv lm f4 g2 h1
            go_wp2_with fail
            refine (k1 _ HP.out).mono ?_
            rintro e w31 ⟨rfl, hb⟩
            replace HB := Aside0.mk (HB.out.trans (hb.mono HB.out.size))
            replace HR1 := Aside0.mk (Kd.C_below HR1.out hb)
            replace HP := Aside0.mk (Kd.C_below HP.out hb)
            replace HQ := Aside0.mk (Kd.C_below HQ.out hb)
            replace HD := Aside0.mk (Kd.C_below HD.out hb)
            clear hb
            go_wp2_with fail
            refine (k2 _ HQ.out).mono ?_
            rintro e w32 ⟨rfl, hb⟩
            replace HB := Aside0.mk (HB.out.trans (hb.mono HB.out.size))
            replace HR1 := Aside0.mk (Kd.C_below HR1.out hb)
            replace HP := Aside0.mk (Kd.C_below HP.out hb)
            replace HQ := Aside0.mk (Kd.C_below HQ.out hb)
            replace HD := Aside0.mk (Kd.C_below HD.out hb)
            clear hb
            go_wp2_with fail
            refine (k3 _ HD.out).mono ?_
            rintro e w33 ⟨rfl, hb⟩
            replace HB := Aside0.mk (HB.out.trans (hb.mono HB.out.size))
            replace HR1 := Aside0.mk (Kd.C_below HR1.out hb)
            replace HP := Aside0.mk (Kd.C_below HP.out hb)
            replace HQ := Aside0.mk (Kd.C_below HQ.out hb)
            replace HD := Aside0.mk (Kd.C_below HD.out hb)
            clear hb
            go_wp2_with fail
            (with_reducible refine (k5 _).mono ?_)
            rintro e w103 ⟨rfl, hb⟩
            replace HB := Aside0.mk (HB.out.trans (hb.mono HB.out.size))
            replace HR1 := Aside0.mk (Kd.C_below HR1.out hb)
            replace HP := Aside0.mk (Kd.C_below HP.out hb)
            replace HQ := Aside0.mk (Kd.C_below HQ.out hb)
            replace HD := Aside0.mk (Kd.C_below HD.out hb)
            clear hb
            go_wp2
            go_meet
            exact ⟨HB, HR1⟩
          have f5 := f4 h1 h2
          have p1 : 0 < u'.length := List.length_pos_iff.2 h1
          have s1 : (((Poly.up (Poly.mulP u' v')).length : Int) == ((Poly.up u').length : Int) + ((Poly.up v').length : Int) - 1) = true := by
            rw [beq_iff_eq]; omega
          have z1 : (Poly.up u').length ≤ 40 := by omega
          have z2 : (Poly.up v').length ≤ 40 := by omega
          clear lu lv lm f4 f5 h1 h2 p1
          go_wp2_with fail
          refine (k1 _ HP.out).mono ?_
          rintro e w31 ⟨rfl, hb⟩
          replace HB := Aside0.mk (HB.out.trans (hb.mono HB.out.size))
          replace HR1 := Aside0.mk (Kd.C_below HR1.out hb)
          replace HP := Aside0.mk (Kd.C_below HP.out hb)
          replace HQ := Aside0.mk (Kd.C_below HQ.out hb)
          replace HD := Aside0.mk (Kd.C_below HD.out hb)
          clear hb
          go_wp2_with fail
          refine (k2 _ HQ.out).mono ?_
          rintro e w32 ⟨rfl, hb⟩
          replace HB := Aside0.mk (HB.out.trans (hb.mono HB.out.size))
          replace HR1 := Aside0.mk (Kd.C_below HR1.out hb)
          replace HP := Aside0.mk (Kd.C_below HP.out hb)
          replace HQ := Aside0.mk (Kd.C_below HQ.out hb)
          replace HD := Aside0.mk (Kd.C_below HD.out hb)
          clear hb
          go_wp2_with fail
          refine (k3 _ HD.out).mono ?_
          rintro e w33 ⟨rfl, hb⟩
          replace HB := Aside0.mk (HB.out.trans (hb.mono HB.out.size))
          replace HR1 := Aside0.mk (Kd.C_below HR1.out hb)
          replace HP := Aside0.mk (Kd.C_below HP.out hb)
          replace HQ := Aside0.mk (Kd.C_below HQ.out hb)
          replace HD := Aside0.mk (Kd.C_below HD.out hb)
          clear hb
          go_wp2_with fail
          (with_reducible refine (k5 _).mono ?_)
          rintro e w104 ⟨rfl, hb⟩
          replace HB := Aside0.mk (HB.out.trans (hb.mono HB.out.size))
          replace HR1 := Aside0.mk (Kd.C_below HR1.out hb)
          replace HP := Aside0.mk (Kd.C_below HP.out hb)
          replace HQ := Aside0.mk (Kd.C_below HQ.out hb)
          replace HD := Aside0.mk (Kd.C_below HD.out hb)
          clear hb
          go_wp2
          go_meet
          exact ⟨HB, HR1⟩
      case rest =>
        as_aux_lemma =>
          clear HB HR1 HP HQ HD HN2 HN3 HN4 hmm x2
          obtain ⟨HB, HR1⟩ := hcut
          have k1 := fun (A : Option Addr) (n : Nat) (hn : g.length ≤ n) w => evalI_c g y z q3 hz (A := A) hn w
          have k2 := fun (A : Option Addr) (n : Nat) (hn : g.length ≤ n) w => evalS_c g y z q3 hz (A := A) hn w
          clear hz
          go_wp2_with fail
          refine (cD3 _ HR1.out).mono ?_
          rintro e w41 ⟨va, rfl, hva, hb⟩
          obtain ⟨A2, n2, rfl, hn2, hC2⟩ := Kd.R_reads hva
          have HP := Aside0.mk hC2
          have HN2 := Aside0.mk hn2
          clear hva hC2 hn2
          replace HB := Aside0.mk (HB.out.trans (hb.mono HB.out.size))
          replace HR1 := Aside0.mk (Kd.C_below HR1.out hb)
          clear hb
          go_wp2_with fail
          refine (k1 A2 n2 HN2.out _ HP.out).mono ?_
          rintro e w42 ⟨rfl, hb⟩
          replace HB := Aside0.mk (HB.out.trans (hb.mono HB.out.size))
          replace HR1 := Aside0.mk (Kd.C_below HR1.out hb)
          replace HP := Aside0.mk (Kd.C_below HP.out hb)
          clear hb
          go_wp2_with fail
          refine (k2 A2 n2 HN2.out _ HP.out).mono ?_
          rintro e w43 ⟨rfl, hb⟩
          replace HB := Aside0.mk (HB.out.trans (hb.mono HB.out.size))
          replace HR1 := Aside0.mk (Kd.C_below HR1.out hb)
          replace HP := Aside0.mk (Kd.C_below HP.out hb)
          clear hb
          go_wp2
          go_ret
          exact ⟨by first | rfl | simp, HB.out⟩

end Go.Proofs.Ytncgojfhaagkkaa.Pure
