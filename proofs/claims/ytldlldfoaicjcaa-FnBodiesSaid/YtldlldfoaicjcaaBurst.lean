/-
  No burst of up to 32 bits leaves a sum as it was, no program in sight: one shift is linear and one to one; a list of bytes as one number, the lowest byte first; a burst as an exclusive or of such numbers. Conditions are typed at each lemma.
-/
import Derived.Test.YtldlldfoaicjcaaGf
set_option linter.unusedVariables false
namespace Go.Proofs.Ytldlldfoaicjcaa.Burst
open Go.Proofs.Ytldlldfoaicjcaa.Gf (two_pow_xor xor_swap xor_cancel xor_cancel' xor_eq_zero)

/-- One shift. -/
def sh (x : Nat) : Nat := if x % 2 = 1 then (x / 2) ^^^ 2197175160 else x / 2
def shs : Nat → Nat → Nat
  | 0, x => x
  | n + 1, x => shs n (sh x)
theorem sh_xor (a b : Nat) : sh (a ^^^ b) = sh a ^^^ sh b := by
  unfold sh
  rw [Nat.xor_div_two]
  have h : (a ^^^ b) % 2 = 1 ↔ ¬ (a % 2 = 1 ↔ b % 2 = 1) := Nat.xor_mod_two_eq_one
  by_cases h1 : a % 2 = 1
  · by_cases h2 : b % 2 = 1
    · rw [if_pos h1, if_pos h2, if_neg (fun e => h.1 e ⟨fun _ => h2, fun _ => h1⟩), xor_swap, Nat.xor_self, Nat.xor_zero]
    · rw [if_pos h1, if_neg h2, if_pos (h.2 fun e => h2 (e.1 h1)), Nat.xor_assoc, Nat.xor_assoc, Nat.xor_comm (b / 2)]
  · by_cases h2 : b % 2 = 1
    · rw [if_neg h1, if_pos h2, if_pos (h.2 fun e => h1 (e.2 h2)), Nat.xor_assoc]
    · rw [if_neg h1, if_neg h2, if_neg (fun e => h.1 e ⟨fun q => absurd q h1, fun q => absurd q h2⟩)]
theorem sh_lt {x : Nat} (h : x < 2 ^ 32) : sh x < 2 ^ 32 := by
  unfold sh
  split
  · exact Nat.xor_lt_two_pow (by omega) (by decide)
  · omega
theorem sh_ne {x : Nat} (h : x < 2 ^ 32) (h0 : x ≠ 0) : sh x ≠ 0 := by
  unfold sh
  split
  · intro e
    have := xor_eq_zero e
    omega
  · omega
theorem sh_zero : sh 0 = 0 := rfl
theorem shs_zero : ∀ n, shs n 0 = 0
  | 0 => rfl
  | n + 1 => shs_zero n
theorem shs_xor : ∀ n a b, shs n (a ^^^ b) = shs n a ^^^ shs n b
  | 0, _, _ => rfl
  | n + 1, a, b => by
    show shs n (sh (a ^^^ b)) = shs n (sh a) ^^^ shs n (sh b)
    rw [sh_xor, shs_xor n]
theorem shs_ne : ∀ n {x : Nat}, x < 2 ^ 32 → x ≠ 0 → shs n x ≠ 0
  | 0, _, _, h => h
  | n + 1, x, h, h0 => shs_ne n (sh_lt h) (sh_ne h h0)
theorem shs_lt : ∀ n {x : Nat}, x < 2 ^ 32 → shs n x < 2 ^ 32
  | 0, _, h => h
  | n + 1, _, h => shs_lt n (sh_lt h)

/-- n bits of c, the lowest first, on x. -/
def bp : Nat → Nat → Nat → Nat
  | 0, x, _ => x
  | n + 1, x, c => bp n (sh (x ^^^ (c % 2))) (c / 2)
theorem sh_even (c : Nat) : sh (2 * c) = c := by unfold sh; rw [if_neg (by omega)]; omega
theorem low_bit (c : Nat) : c = (2 * (c / 2)) ^^^ (c % 2) := by
  have h := two_pow_xor 1 0 (by decide)
  by_cases e : c % 2 = 0
  · rw [e, Nat.xor_zero]; omega
  · have e1 : c % 2 = 1 := by omega
    rw [e1]
    apply Nat.eq_of_testBit_eq
    intro j
    rw [Nat.testBit_xor]
    cases j with
    | zero => simp [Nat.testBit_zero, e1]
    | succ j =>
      rw [Nat.testBit_succ, Nat.testBit_succ, Nat.testBit_succ]
      simp
theorem bp_shs : ∀ n x c, c < 2 ^ n → bp n x c = shs n (x ^^^ c)
  | 0, x, c, h => by
    obtain rfl : c = 0 := by simpa using h
    rw [Nat.xor_zero]; rfl
  | n + 1, x, c, h => by
    show bp n (sh (x ^^^ (c % 2))) (c / 2) = shs n (sh (x ^^^ c))
    rw [bp_shs n _ _ (by rw [Nat.pow_succ] at h; omega)]
    congr 1
    conv => rhs; rw [low_bit c]
    rw [Nat.xor_comm (2 * (c / 2)), ← Nat.xor_assoc, sh_xor (x ^^^ c % 2) (2 * (c / 2)), sh_even]
theorem bp_xor : ∀ n x y c d, bp n (x ^^^ y) (c ^^^ d) = bp n x c ^^^ bp n y d
  | 0, _, _, _, _ => rfl
  | n + 1, x, y, c, d => by
    show bp n (sh ((x ^^^ y) ^^^ ((c ^^^ d) % 2))) ((c ^^^ d) / 2) = bp n (sh (x ^^^ c % 2)) (c / 2) ^^^ bp n (sh (y ^^^ d % 2)) (d / 2)
    have e : (c ^^^ d) % 2 = (c % 2) ^^^ (d % 2) := by
      have := Nat.xor_mod_two_pow (a := c) (b := d) (n := 1)
      simpa using this
    rw [← bp_xor n, Nat.xor_div_two, ← sh_xor, e, xor_swap]
theorem bp_add : ∀ n m x c d, c < 2 ^ n → bp (n + m) x (c + 2 ^ n * d) = bp m (bp n x c) d
  | 0, m, x, c, d, h => by
    obtain rfl : c = 0 := by simpa using h
    rw [Nat.zero_add, Nat.pow_zero, Nat.one_mul, Nat.zero_add]; rfl
  | n + 1, m, x, c, d, h => by
    have hp : 2 ^ (n + 1) * d = 2 * (2 ^ n * d) := by rw [Nat.pow_succ, Nat.mul_comm (2 ^ n) 2, Nat.mul_assoc]
    rw [show n + 1 + m = (n + m) + 1 by omega]
    show bp (n + m) (sh (x ^^^ ((c + 2 ^ (n + 1) * d) % 2))) ((c + 2 ^ (n + 1) * d) / 2) = bp m (bp n (sh (x ^^^ (c % 2))) (c / 2)) d
    rw [hp, show (c + 2 * (2 ^ n * d)) % 2 = c % 2 by omega, show (c + 2 * (2 ^ n * d)) / 2 = c / 2 + 2 ^ n * d by omega]
    exact bp_add n m _ _ _ (by rw [Nat.pow_succ] at h; omega)
theorem bp_zeros : ∀ n, bp n 0 0 = 0
  | 0 => rfl
  | n + 1 => bp_zeros n
/-- The numbers of two texts of n bits that are unlike by a burst c at bit k have other sums. -/
theorem bp_burst {n k c : Nat} (hk : k ≤ n) (hc : c < 2 ^ (n - k)) (h32 : c < 2 ^ 32) (h0 : c ≠ 0) : bp n 0 (2 ^ k * c) ≠ 0 := by
  have h := bp_add k (n - k) 0 0 c (Nat.two_pow_pos k)
  rw [Nat.zero_add, show k + (n - k) = n by omega, bp_zeros, bp_shs _ _ _ hc, Nat.zero_xor] at h
  rw [h]
  exact shs_ne _ h32 h0

/-- A list of bytes as one number. -/
def T : List Nat → Nat
  | [] => 0
  | c :: l => c + 256 * T l
def Bs (l : List Nat) : Prop := ∀ x ∈ l, x < 256
theorem Bs.head {a : Nat} {l : List Nat} (h : Bs (a :: l)) : a < 256 := h a List.mem_cons_self
theorem Bs.tail {a : Nat} {l : List Nat} (h : Bs (a :: l)) : Bs l := fun x hx => h x (List.mem_cons_of_mem _ hx)
theorem T_lt : ∀ {l : List Nat}, Bs l → T l < 2 ^ (8 * l.length)
  | [], _ => by decide
  | c :: l, h => by
    have h1 := T_lt h.tail
    have h2 := h.head
    have h3 : 2 ^ (8 * (c :: l).length) = 256 * 2 ^ (8 * l.length) := by
      rw [List.length_cons, show 8 * (l.length + 1) = 8 + 8 * l.length by omega, Nat.pow_add]
    show c + 256 * T l < _
    omega
theorem T_inj : ∀ {l m : List Nat}, Bs l → Bs m → l.length = m.length → T l = T m → l = m
  | [], [], _, _, _, _ => rfl
  | [], _ :: _, _, _, h, _ => by simp at h
  | _ :: _, [], _, _, h, _ => by simp at h
  | c :: l, d :: m, h1, h2, h3, h4 => by
    have a := h1.head
    have b := h2.head
    have e : c + 256 * T l = d + 256 * T m := h4
    have e1 : c = d := by omega
    have e2 : T l = T m := by omega
    rw [e1, T_inj h1.tail h2.tail (by simpa using h3) e2]
theorem join_xor {a : Nat} (ha : a < 256) (t : Nat) : a + 256 * t = a ^^^ (256 * t) := by
  apply Nat.eq_of_testBit_eq
  intro j
  have h1 := Nat.testBit_two_pow_mul_add t (i := 8) (b := a) ha j
  have h2 := Nat.testBit_two_pow_mul (i := 8) (a := t) (j := j)
  rw [Nat.add_comm, show (256 : Nat) = 2 ^ 8 from rfl, h1, Nat.testBit_xor, h2]
  by_cases hj : j < 8
  · rw [if_pos hj]
    have : ¬ 8 ≤ j := by omega
    simp [this]
  · rw [if_neg hj, Nat.testBit_lt_two_pow (Nat.lt_of_lt_of_le ha (Nat.pow_le_pow_right (show 2 > 0 by decide) (show 8 ≤ j by omega)))]
    have : 8 ≤ j := by omega
    simp [this]
theorem mul_xor (k a b : Nat) : 2 ^ k * (a ^^^ b) = 2 ^ k * a ^^^ 2 ^ k * b := by
  have := Nat.shiftLeft_xor_distrib (a := a) (b := b) (i := k)
  simp only [Nat.shiftLeft_eq] at this
  rw [Nat.mul_comm, this, Nat.mul_comm, Nat.mul_comm (2 ^ k) b]
theorem T_set : ∀ {l : List Nat} {i v : Nat}, Bs l → v < 256 → i < l.length → T (l.set i (l.getD i 0 ^^^ v)) = T l ^^^ 2 ^ (8 * i) * v
  | [], i, v, _, _, h => by simp at h
  | c :: l, 0, v, hb, hv, _ => by
    show (c ^^^ v) + 256 * T l = (c + 256 * T l) ^^^ 1 * v
    rw [join_xor (Nat.xor_lt_two_pow (n := 8) hb.head hv), join_xor hb.head, Nat.one_mul, Nat.xor_assoc, Nat.xor_assoc, Nat.xor_comm v]
  | c :: l, i + 1, v, hb, hv, h => by
    show c + 256 * T (l.set i (l.getD i 0 ^^^ v)) = (c + 256 * T l) ^^^ 2 ^ (8 * (i + 1)) * v
    have e : 2 ^ (8 * (i + 1)) * v = 256 * (2 ^ (8 * i) * v) := by
      rw [show 8 * (i + 1) = 8 + 8 * i by omega, Nat.pow_add, Nat.mul_assoc]
    rw [T_set hb.tail hv (by simpa using h), join_xor hb.head, join_xor hb.head, e, Nat.xor_assoc]
    congr 1
    exact mul_xor 8 _ _
theorem T_append : ∀ (l m : List Nat), T (l ++ m) = T l + 2 ^ (8 * l.length) * T m
  | [], m => by simp [T]
  | c :: l, m => by
    show c + 256 * T (l ++ m) = c + 256 * T l + 2 ^ (8 * (c :: l).length) * T m
    have e : 2 ^ (8 * (c :: l).length) * T m = 256 * (2 ^ (8 * l.length) * T m) := by
      rw [List.length_cons, show 8 * (l.length + 1) = 8 + 8 * l.length by omega, Nat.pow_add, Nat.mul_assoc]
    rw [T_append l m, e]
    omega
/-- A list's shifts. -/
def crc : List Nat → Nat → Nat
  | [], x => x
  | c :: l, x => crc l (shs 8 (x ^^^ c))
theorem crc_bp : ∀ {l : List Nat} (x : Nat), Bs l → crc l x = bp (8 * l.length) x (T l)
  | [], x, _ => rfl
  | c :: l, x, h => by
    have e1 : crc (c :: l) x = crc l (shs 8 (x ^^^ c)) := rfl
    have e2 : T (c :: l) = c + 2 ^ 8 * T l := rfl
    rw [e1, e2, List.length_cons, show 8 * (l.length + 1) = 8 + 8 * l.length by omega, bp_add 8 _ _ _ _ h.head, bp_shs 8 _ _ h.head]
    exact crc_bp _ h.tail
/-- Two lists as long whose numbers are unlike by c at bit k: their sums are alike just where they are. -/
theorem crc_burst {l m : List Nat} (hl : Bs l) (hm : Bs m) (hlm : l.length = m.length) (x : Nat) {k c : Nat} (hk : k ≤ 8 * l.length) (hc : c < 2 ^ (8 * l.length - k)) (h32 : c < 2 ^ 32) (h : T m = T l ^^^ 2 ^ k * c) :
    (crc l x = crc m x ↔ l = m) := by
  refine ⟨fun e => ?_, fun e => by rw [e]⟩
  by_cases h0 : c = 0
  · rw [h0, Nat.mul_zero, Nat.xor_zero] at h
    exact T_inj hl hm hlm h.symm
  · refine absurd ?_ (bp_burst hk hc h32 h0)
    have e1 := crc_bp x hl
    have e2 := crc_bp x hm
    have e3 := bp_xor (8 * l.length) x x (T l) (T m)
    rw [← hlm] at e2
    rw [← e1, ← e2, ← e, Nat.xor_self, Nat.xor_self, h, xor_cancel'] at e3
    exact e3

/-- The burst, bit by bit. -/
def flip (l : List Nat) (p : Nat) : List Nat := l.set (p / 8) (l.getD (p / 8) 0 ^^^ 2 ^ (p % 8))
theorem flip_length (l : List Nat) (p : Nat) : (flip l p).length = l.length := List.length_set ..
theorem pow_byte (p : Nat) : 2 ^ (p % 8) < 256 := Nat.lt_of_lt_of_le (Nat.pow_lt_pow_right (by decide) (Nat.mod_lt p (by decide))) (by decide : 2 ^ 8 ≤ 256)
theorem getD_lt {l : List Nat} (h : Bs l) (i : Nat) : l.getD i 0 < 256 := by
  rw [List.getD_eq_getElem?_getD]
  cases e : l[i]? with
  | none => decide
  | some v => exact h v (List.mem_of_getElem? e)
theorem flip_bytes {l : List Nat} (h : Bs l) (p : Nat) : Bs (flip l p) := fun x hx => by
  rcases List.mem_or_eq_of_mem_set hx with hx | rfl
  · exact h x hx
  · exact Nat.xor_lt_two_pow (n := 8) (getD_lt h _) (pow_byte p)
theorem flip_T {l : List Nat} (h : Bs l) {p : Nat} (hp : p < 8 * l.length) : T (flip l p) = T l ^^^ 2 ^ p := by
  unfold flip
  rw [T_set h (pow_byte p) (by omega), ← Nat.pow_add, show 8 * (p / 8) + p % 8 = p by omega]
/-- d bits of c from bit p on, as far as the list goes. -/
def burst : Nat → List Nat → Nat → Nat → List Nat
  | 0, l, _, _ => l
  | d + 1, l, p, c => if p < 8 * l.length then burst d (if c % 2 = 1 then flip l p else l) (p + 1) (c / 2) else l
theorem burst_length : ∀ d l p c, (burst d l p c).length = l.length
  | 0, _, _, _ => rfl
  | d + 1, l, p, c => by
    unfold burst
    split
    · rw [burst_length d]
      split
      · exact flip_length l p
      · rfl
    · rfl
theorem burst_bytes : ∀ d {l : List Nat} p c, Bs l → Bs (burst d l p c)
  | 0, _, _, _, h => h
  | d + 1, l, p, c, h => by
    unfold burst
    split
    · refine burst_bytes d _ _ ?_
      split
      · exact flip_bytes h p
      · exact h
    · exact h
/-- Its number: c, as far as there is room, at bit p. -/
theorem burst_T : ∀ d {l : List Nat} {p c : Nat}, Bs l → c < 2 ^ d → p ≤ 8 * l.length → T (burst d l p c) = T l ^^^ 2 ^ p * (c % 2 ^ (8 * l.length - p))
  | 0, l, p, c, h, hc, _ => by
    obtain rfl : c = 0 := by simpa using hc
    rw [Nat.zero_mod, Nat.mul_zero, Nat.xor_zero]; rfl
  | d + 1, l, p, c, h, hc, hp => by
    unfold burst
    by_cases h1 : p < 8 * l.length
    · rw [if_pos h1]
      have hb : Bs (if c % 2 = 1 then flip l p else l) := by
        split
        · exact flip_bytes h p
        · exact h
      have hl : (if c % 2 = 1 then flip l p else l).length = l.length := by
        split
        · exact flip_length l p
        · rfl
      have ih := burst_T d (p := p + 1) (c := c / 2) hb (by rw [Nat.pow_succ] at hc; omega) (by rw [hl]; omega)
      rw [hl] at ih
      have hT : T (if c % 2 = 1 then flip l p else l) = T l ^^^ 2 ^ p * (c % 2) := by
        split
        · rename_i e; rw [e, Nat.mul_one, flip_T h h1]
        · rename_i e; rw [show c % 2 = 0 by omega, Nat.mul_zero, Nat.xor_zero]
      rw [ih, hT, Nat.xor_assoc]
      congr 1
      have hm : ∀ m, 8 * l.length - p = m + 1 → c % 2 ^ (m + 1) = (2 * (c / 2 % 2 ^ m)) ^^^ (c % 2) := fun m _ => by
        have e1 := low_bit (c % 2 ^ (m + 1))
        have e2 : c % 2 ^ (m + 1) / 2 = c / 2 % 2 ^ m := by
          rw [Nat.pow_succ, Nat.mul_comm]
          exact Nat.mod_mul_right_div_self c 2 (2 ^ m)
        have e3 : c % 2 ^ (m + 1) % 2 = c % 2 := by
          rw [Nat.pow_succ, Nat.mul_comm]
          exact Nat.mod_mul_right_mod c 2 (2 ^ m)
        rw [e2, e3] at e1
        exact e1
      obtain ⟨m, hm1⟩ : ∃ m, 8 * l.length - p = m + 1 := ⟨8 * l.length - p - 1, by omega⟩
      rw [hm1, hm m hm1, mul_xor, Nat.xor_comm, show 8 * l.length - (p + 1) = m by omega, Nat.pow_succ, Nat.mul_assoc]
    · rw [if_neg h1, show 8 * l.length - p = 0 by omega, Nat.pow_zero, Nat.mod_one, Nat.mul_zero, Nat.xor_zero]
/-- A burst of up to 32 bits changes a sum if it changes anything. -/
theorem burst_sum {l : List Nat} (h : Bs l) {p c : Nat} (hc : c < 2 ^ 32) (hp : p ≤ 8 * l.length) (x : Nat) : (crc l x = crc (burst 32 l p c) x ↔ l = burst 32 l p c) := by
  have e := burst_T 32 h hc hp
  exact crc_burst h (burst_bytes 32 p c h) (burst_length 32 l p c).symm x hp (Nat.mod_lt _ (Nat.two_pow_pos _)) (Nat.lt_of_le_of_lt (Nat.mod_le _ _) hc) e
/-- Twice the same burst is none. -/
theorem burst_twice {l : List Nat} (h : Bs l) {p c : Nat} (hc : c < 2 ^ 32) (hp : p ≤ 8 * l.length) : burst 32 (burst 32 l p c) p c = l := by
  have hb := burst_bytes 32 p c h
  have hl := burst_length 32 l p c
  refine T_inj (burst_bytes 32 p c hb) h (by rw [burst_length, hl]) ?_
  rw [burst_T 32 hb hc (by rw [hl]; exact hp), hl, burst_T 32 h hc hp, xor_cancel]
end Go.Proofs.Ytldlldfoaicjcaa.Burst
