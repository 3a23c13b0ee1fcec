/-
  The plain field of 256 elements over natural numbers, no program in sight: the product (eight doublings, the rest by 285), that it is
  linear, commutative, associative, has 1, no divisors of 0 and inverses (the power 254), and the powers. No conditions beyond those typed.
-/
set_option linter.unusedVariables false
namespace Go.Proofs.Ytldlldfoaicjcaa.Gf

/-- Twice an element. -/
def xt (a : Nat) : Nat := if 255 < a * 2 then (a * 2) ^^^ 285 else a * 2
/-- The product's loop: n rounds. -/
def gmA : Nat → Nat → Nat → Nat → Nat
  | 0, _, _, o => o
  | n + 1, a, b, o => gmA n (xt a) (b / 2) (if b % 2 = 1 then o ^^^ a else o)
/-- The product. -/
def gm (a b : Nat) : Nat := gmA 8 a b 0

theorem xor_byte {a b : Nat} (ha : a < 256) (hb : b < 256) : a ^^^ b < 256 := Nat.xor_lt_two_pow (n := 8) ha hb
theorem xor_swap (a b c d : Nat) : (a ^^^ b) ^^^ (c ^^^ d) = (a ^^^ c) ^^^ (b ^^^ d) := by
  rw [Nat.xor_assoc, Nat.xor_assoc, ← Nat.xor_assoc b, Nat.xor_comm b c, Nat.xor_assoc c]
theorem xor_cancel (a b : Nat) : (a ^^^ b) ^^^ b = a := by rw [Nat.xor_assoc, Nat.xor_self, Nat.xor_zero]
theorem xor_cancel' (a b : Nat) : a ^^^ (a ^^^ b) = b := by rw [← Nat.xor_assoc, Nat.xor_self, Nat.zero_xor]
theorem xor_eq_zero {a b : Nat} (h : a ^^^ b = 0) : a = b := by
  have := xor_cancel a b
  rw [h, Nat.zero_xor] at this
  exact this.symm
theorem xor_left_inj {a b c : Nat} (h : a ^^^ c = b ^^^ c) : a = b := by
  rw [← xor_cancel a c, h, xor_cancel]

theorem two_pow_xor (m r : Nat) (hr : r < 2 ^ m) : 2 ^ m ^^^ r = 2 ^ m + r := by
  apply Nat.eq_of_testBit_eq
  intro j
  have h := Nat.testBit_two_pow_mul_add 1 hr j
  rw [Nat.mul_one] at h
  rw [h, Nat.testBit_xor, Nat.testBit_two_pow]
  by_cases hj : j < m
  · rw [if_pos hj]
    have : ¬ m = j := by omega
    simp [this]
  · rw [if_neg hj, Nat.testBit_lt_two_pow (Nat.lt_of_lt_of_le hr (Nat.pow_le_pow_right (by decide) (by omega)))]
    by_cases e : m = j
    · subst e; simp
    · have : ¬ j - m = 0 := by omega
      obtain ⟨q, hq⟩ : ∃ q, j - m = q + 1 := ⟨j - m - 1, by omega⟩
      rw [hq, Nat.testBit_succ]
      simp [e]

/-- What is so for 0, for each bit, and for sums of what it is so for, is so for each number of so many bits. -/
theorem bits_ind (P : Nat → Prop) (n : Nat) (h0 : P 0) (hb : ∀ i, i < n → P (2 ^ i)) (hx : ∀ a b, a < 2 ^ n → b < 2 ^ n → P a → P b → P (a ^^^ b)) :
    ∀ m, m ≤ n → ∀ a, a < 2 ^ m → P a := by
  intro m
  induction m with
  | zero =>
    intro _ a ha
    obtain rfl : a = 0 := by simpa using ha
    exact h0
  | succ m ih =>
    intro hm a ha
    by_cases hlt : a < 2 ^ m
    · exact ih (by omega) a hlt
    · have hp : 2 ^ (m + 1) = 2 * 2 ^ m := by rw [Nat.pow_succ]; omega
      have hr : a - 2 ^ m < 2 ^ m := by omega
      have he : 2 ^ m ^^^ (a - 2 ^ m) = a := by rw [two_pow_xor m _ hr]; omega
      have hmn : 2 ^ m < 2 ^ n := Nat.pow_lt_pow_right (by decide) (by omega)
      rw [← he]
      exact hx _ _ hmn (by omega) (hb m (by omega)) (ih (by omega) _ hr)
theorem byte_ind (P : Nat → Prop) (h0 : P 0) (hb : ∀ i, i < 8 → P (2 ^ i)) (hx : ∀ a b, a < 256 → b < 256 → P a → P b → P (a ^^^ b)) : ∀ a, a < 256 → P a :=
  fun a ha => bits_ind P 8 h0 hb hx 8 (Nat.le_refl _) a ha

theorem xt_lt : ∀ a, a < 256 → xt a < 256 := by decide +kernel
theorem mul2_xor (a b : Nat) : (a ^^^ b) * 2 = a * 2 ^^^ b * 2 := by
  have := Nat.shiftLeft_xor_distrib (a := a) (b := b) (i := 1)
  simpa [Nat.shiftLeft_eq] using this
theorem xt_top : ∀ a, a < 256 → (255 < a * 2 ↔ a.testBit 7 = true) := by decide +kernel
theorem xt_xor {a b : Nat} (ha : a < 256) (hb : b < 256) : xt (a ^^^ b) = xt a ^^^ xt b := by
  have h := xt_top _ (xor_byte ha hb)
  rw [Nat.testBit_xor] at h
  have h1 := xt_top _ ha
  have h2 := xt_top _ hb
  unfold xt
  rw [mul2_xor] at h ⊢
  generalize a.testBit 7 = p at h h1
  generalize b.testBit 7 = q at h h2
  cases p <;> cases q <;> simp at h h1 h2
  · rw [if_neg (by omega), if_neg (by omega), if_neg (by omega)]
  · rw [if_pos (by omega), if_neg (by omega), if_pos (by omega), Nat.xor_assoc]
  · rw [if_pos (by omega), if_pos (by omega), if_neg (by omega), Nat.xor_assoc, Nat.xor_comm (b * 2), Nat.xor_assoc]
  · rw [if_neg (by omega), if_pos (by omega), if_pos (by omega), xor_swap, Nat.xor_self, Nat.xor_zero]

theorem gmA_lt : ∀ n a b o, a < 256 → o < 256 → gmA n a b o < 256
  | 0, _, _, _, _, ho => ho
  | n + 1, a, b, o, ha, ho => by
    unfold gmA
    refine gmA_lt n _ _ _ (xt_lt a ha) ?_
    split
    · exact xor_byte ho ha
    · exact ho
theorem gmA_zero : ∀ n a o, gmA n a 0 o = o
  | 0, _, _ => rfl
  | n + 1, a, o => by
    unfold gmA
    rw [if_neg (by decide)]
    exact gmA_zero n _ _
/-- More rounds than the number has bits change nothing. -/
theorem gmA_more : ∀ n m a b o, b < 2 ^ n → gmA (n + m) a b o = gmA n a b o
  | 0, m, a, b, o, hb => by
    obtain rfl : b = 0 := by simpa using hb
    rw [gmA_zero, gmA_zero]
  | n + 1, m, a, b, o, hb => by
    have : n + 1 + m = (n + m) + 1 := by omega
    rw [this]
    unfold gmA
    exact gmA_more n m _ _ _ (by rw [Nat.pow_succ] at hb; omega)
theorem gmA_right : ∀ n a b c o p, gmA n a (b ^^^ c) (o ^^^ p) = gmA n a b o ^^^ gmA n a c p
  | 0, _, _, _, _, _ => rfl
  | n + 1, a, b, c, o, p => by
    unfold gmA
    rw [Nat.xor_div_two, ← gmA_right n]
    congr 1
    have h : (b ^^^ c) % 2 = 1 ↔ ¬ (b % 2 = 1 ↔ c % 2 = 1) := Nat.xor_mod_two_eq_one
    by_cases h1 : b % 2 = 1
    · by_cases h2 : c % 2 = 1
      · rw [if_pos h1, if_pos h2, if_neg (fun e => h.1 e ⟨fun _ => h2, fun _ => h1⟩), xor_swap, Nat.xor_self, Nat.xor_zero]
      · rw [if_pos h1, if_neg h2, if_pos (h.2 fun e => h2 (e.1 h1)), Nat.xor_assoc, Nat.xor_comm p, Nat.xor_assoc]
    · by_cases h2 : c % 2 = 1
      · rw [if_neg h1, if_pos h2, if_pos (h.2 fun e => h1 (e.2 h2)), Nat.xor_assoc]
      · rw [if_neg h1, if_neg h2, if_neg (fun e => h.1 e ⟨fun q => absurd q h1, fun q => absurd q h2⟩)]
theorem gmA_left : ∀ n a b c o p, a < 256 → b < 256 → gmA n (a ^^^ b) c (o ^^^ p) = gmA n a c o ^^^ gmA n b c p
  | 0, _, _, _, _, _, _, _ => rfl
  | n + 1, a, b, c, o, p, ha, hb => by
    unfold gmA
    rw [xt_xor ha hb, ← gmA_left n _ _ _ _ _ (xt_lt a ha) (xt_lt b hb)]
    congr 1
    by_cases h1 : c % 2 = 1 <;> simp only [h1] <;> simp
    exact xor_swap _ _ _ _

theorem gm_lt {a : Nat} (b : Nat) (ha : a < 256) : gm a b < 256 := gmA_lt 8 a b 0 ha (by decide)
theorem gm_zero (a : Nat) : gm a 0 = 0 := gmA_zero 8 a 0
theorem gm_add (a b c : Nat) : gm a (b ^^^ c) = gm a b ^^^ gm a c := gmA_right 8 a b c 0 0
theorem add_gm {a b : Nat} (c : Nat) (ha : a < 256) (hb : b < 256) : gm (a ^^^ b) c = gm a c ^^^ gm b c := gmA_left 8 a b c 0 0 ha hb
theorem zero_gm (b : Nat) : gm 0 b = 0 := by
  have := add_gm (a := 0) (b := 0) b (by decide) (by decide)
  rw [Nat.xor_self, Nat.xor_self] at this
  exact this
theorem gm_one : ∀ a, a < 256 → gm a 1 = a := by decide +kernel
theorem one_gm : ∀ a, a < 256 → gm 1 a = a := by decide +kernel
theorem comm_bits : ∀ i, i < 8 → ∀ j, j < 8 → gm (2 ^ i) (2 ^ j) = gm (2 ^ j) (2 ^ i) := by decide +kernel
theorem pow2_lt {i : Nat} (h : i < 8) : 2 ^ i < 256 := Nat.lt_of_lt_of_le (Nat.pow_lt_pow_right (by decide) h) (by decide : 2 ^ 8 ≤ 256)
theorem gm_comm {a b : Nat} (ha : a < 256) (hb : b < 256) : gm a b = gm b a := by
  revert b
  refine fun {b} hb => byte_ind (fun a => ∀ b, b < 256 → gm a b = gm b a) ?_ ?_ ?_ a ha b hb
  · intro b _; rw [zero_gm, gm_zero]
  · intro i hi b hb
    refine byte_ind (fun b => gm (2 ^ i) b = gm b (2 ^ i)) ?_ ?_ ?_ b hb
    · rw [zero_gm, gm_zero]
    · exact fun j hj => comm_bits i hi j hj
    · intro x y hx hy h1 h2
      rw [gm_add, add_gm _ hx hy, h1, h2]
  · intro x y hx hy h1 h2 b hb
    rw [gm_add, add_gm _ hx hy, h1 b hb, h2 b hb]
theorem assoc_bits : ∀ i, i < 8 → ∀ j, j < 8 → ∀ k, k < 8 → gm (gm (2 ^ i) (2 ^ j)) (2 ^ k) = gm (2 ^ i) (gm (2 ^ j) (2 ^ k)) := by decide +kernel
theorem gm_assoc {a b : Nat} (c : Nat) (ha : a < 256) (hb : b < 256) (hc : c < 256) : gm (gm a b) c = gm a (gm b c) := by
  refine byte_ind (fun a => ∀ b, b < 256 → ∀ c, c < 256 → gm (gm a b) c = gm a (gm b c)) ?_ ?_ ?_ a ha b hb c hc
  · intro b _ c _; rw [zero_gm, zero_gm, zero_gm]
  · intro i hi b hb
    refine byte_ind (fun b => ∀ c, c < 256 → gm (gm (2 ^ i) b) c = gm (2 ^ i) (gm b c)) ?_ ?_ ?_ b hb
    · intro c _; rw [gm_zero, zero_gm, gm_zero]
    · intro j hj c hc
      refine byte_ind (fun c => gm (gm (2 ^ i) (2 ^ j)) c = gm (2 ^ i) (gm (2 ^ j) c)) ?_ ?_ ?_ c hc
      · rw [gm_zero, gm_zero, gm_zero]
      · exact fun k hk => assoc_bits i hi j hj k hk
      · intro x y hx hy h1 h2
        rw [gm_add, gm_add, gm_add, h1, h2]
    · intro x y hx hy h1 h2 c hc
      rw [gm_add, add_gm _ (gm_lt _ (pow2_lt hi)) (gm_lt _ (pow2_lt hi)), h1 c hc, h2 c hc, add_gm _ hx hy, gm_add]
  · intro x y hx hy h1 h2 b hb c hc
    rw [add_gm _ hx hy, add_gm _ (gm_lt _ hx) (gm_lt _ hy), h1 b hb c hc, h2 b hb c hc, add_gm _ hx hy]

/-- Powers. -/
def pw (a : Nat) : Nat → Nat
  | 0 => 1
  | n + 1 => gm (pw a n) a
theorem pw_lt {a : Nat} : ∀ n, pw a n < 256
  | 0 => (by decide : 1 < 256)
  | n + 1 => gm_lt a (pw_lt n)
theorem pw_one {a : Nat} (ha : a < 256) : pw a 1 = a := one_gm a ha
theorem pw_add {a : Nat} (ha : a < 256) (m : Nat) : ∀ n, pw a (m + n) = gm (pw a m) (pw a n)
  | 0 => by rw [Nat.add_zero]; exact (gm_one _ (pw_lt m)).symm
  | n + 1 => by
    show gm (pw a (m + n)) a = gm (pw a m) (gm (pw a n) a)
    rw [pw_add ha m n, gm_assoc _ (pw_lt m) (pw_lt n) ha]
theorem pw_mul {a : Nat} (ha : a < 256) (m : Nat) : ∀ n, pw (pw a m) n = pw a (m * n)
  | 0 => rfl
  | n + 1 => by
    show gm (pw (pw a m) n) (pw a m) = pw a (m * n + m)
    rw [pw_mul ha m n, pw_add ha]
theorem one_pw : ∀ n, pw 1 n = 1
  | 0 => rfl
  | n + 1 => by
    show gm (pw 1 n) 1 = 1
    rw [one_pw n]; decide
theorem zero_pw (n : Nat) : pw 0 (n + 1) = 0 := gm_zero _
theorem gm_pw {a b : Nat} (ha : a < 256) (hb : b < 256) : ∀ n, pw (gm a b) n = gm (pw a n) (pw b n)
  | 0 => (by decide : 1 = gm 1 1)
  | n + 1 => by
    show gm (pw (gm a b) n) (gm a b) = gm (gm (pw a n) a) (gm (pw b n) b)
    have h1 := pw_lt (a := a) n
    have h2 := pw_lt (a := b) n
    rw [gm_pw ha hb n, gm_assoc _ h1 h2 (gm_lt _ ha), gm_assoc _ h1 ha (gm_lt _ h2), ← gm_assoc _ h2 ha hb, gm_comm h2 ha, gm_assoc _ ha h2 hb]
/-- The powers' loop: squares. -/
def pwA : Nat → Nat → Nat → Nat → Nat
  | 0, _, _, o => o
  | f + 1, a, n, o => pwA f (gm a a) (n / 2) (if n % 2 = 1 then gm o a else o)
theorem pwA_eq : ∀ f a n o, a < 256 → o < 256 → n < 2 ^ f → pwA f a n o = gm o (pw a n)
  | 0, a, n, o, ha, ho, hn => by
    obtain rfl : n = 0 := by simpa using hn
    exact (gm_one o ho).symm
  | f + 1, a, n, o, ha, ho, hn => by
    unfold pwA
    have ho' : (if n % 2 = 1 then gm o a else o) < 256 := by
      split
      · exact gm_lt _ ho
      · exact ho
    rw [pwA_eq f _ _ _ (gm_lt _ ha) ho' (by rw [Nat.pow_succ] at hn; omega)]
    have hs : gm a a = pw a 2 := by show _ = gm (gm 1 a) a; rw [one_gm a ha]
    rw [hs, pw_mul ha]
    by_cases h : n % 2 = 1
    · rw [if_pos h, gm_assoc _ ho ha (pw_lt _)]
      have : n = 1 + 2 * (n / 2) := by omega
      conv => rhs; rw [this, pw_add ha, pw_one ha]
    · rw [if_neg h]
      have : n = 2 * (n / 2) := by omega
      conv => rhs; rw [this]
/-- The inverse. -/
def gi (a : Nat) : Nat := pw a 254
theorem gi_lt (a : Nat) : gi a < 256 := pw_lt _
theorem inv_table : ∀ a, a < 256 → a = 0 ∨ gm a (pwA 8 a 254 1) = 1 := by decide +kernel
theorem gi_eq {a : Nat} (ha : a < 256) : gi a = pwA 8 a 254 1 := by
  rw [pwA_eq 8 a 254 1 ha (by decide) (by decide), one_gm _ (pw_lt _)]; rfl
theorem gm_gi {a : Nat} (ha : a < 256) (h0 : a ≠ 0) : gm a (gi a) = 1 := by
  rw [gi_eq ha]
  exact (inv_table a ha).resolve_left h0
theorem gi_gm {a : Nat} (ha : a < 256) (h0 : a ≠ 0) : gm (gi a) a = 1 := by rw [gm_comm (gi_lt a) ha, gm_gi ha h0]
theorem gi_zero : gi 0 = 0 := zero_pw 253
theorem gi_ne {a : Nat} (ha : a < 256) (h0 : a ≠ 0) : gi a ≠ 0 := fun e => by
  have := gm_gi ha h0
  rw [e, gm_zero] at this
  exact absurd this (by decide)
theorem pw_255 {a : Nat} (ha : a < 256) (h0 : a ≠ 0) : pw a 255 = 1 := gi_gm ha h0
/-- No divisors of 0. -/
theorem gm_eq_zero {a b : Nat} (ha : a < 256) (hb : b < 256) : gm a b = 0 ↔ a = 0 ∨ b = 0 := by
  constructor
  · intro h
    by_cases h0 : a = 0
    · exact .inl h0
    · refine .inr ?_
      have := gm_assoc (a := gi a) (b := a) b (gi_lt a) ha hb
      rw [gi_gm ha h0, h, gm_zero, one_gm b hb] at this
      exact this
  · rintro (rfl | rfl)
    · exact zero_gm b
    · exact gm_zero a
theorem gm_ne {a b : Nat} (ha : a < 256) (hb : b < 256) (h1 : a ≠ 0) (h2 : b ≠ 0) : gm a b ≠ 0 := fun h => ((gm_eq_zero ha hb).1 h).elim h1 h2
theorem gm_inj {a b c : Nat} (ha : a < 256) (hb : b < 256) (hc : c < 256) (h0 : a ≠ 0) (h : gm a b = gm a c) : b = c := by
  have h1 : gm a (b ^^^ c) = 0 := by rw [gm_add, h, Nat.xor_self]
  exact xor_eq_zero (((gm_eq_zero ha (xor_byte hb hc)).1 h1).resolve_left h0)
theorem pw_ne {a : Nat} (ha : a < 256) (h0 : a ≠ 0) : ∀ n, pw a n ≠ 0
  | 0 => (by decide : 1 ≠ 0)
  | n + 1 => gm_ne (pw_lt n) ha (pw_ne ha h0 n) h0
end Go.Proofs.Ytldlldfoaicjcaa.Gf
