/-
  Linear algebra over the plain field of 256 elements, no program in sight: sums of n terms, functionals, that fewer functionals than unknowns have a common nonzero solution. Vectors are functions from the natural numbers; conditions are typed at each lemma.
-/
import Derived.Test.YtldlldfoaicjcaaGf
set_option linter.unusedVariables false
namespace Go.Proofs.Ytldlldfoaicjcaa.Lin
open Go.Proofs.Ytldlldfoaicjcaa.Gf

/-- The sum of the first n values. -/
def xs : Nat → (Nat → Nat) → Nat
  | 0, _ => 0
  | n + 1, f => xs n f ^^^ f n
theorem xs_congr {n : Nat} {f g : Nat → Nat} (h : ∀ j, j < n → f j = g j) : xs n f = xs n g := by
  induction n with
  | zero => rfl
  | succ n ih =>
    show xs n f ^^^ f n = xs n g ^^^ g n
    rw [ih fun j hj => h j (by omega), h n (by omega)]
theorem xs_zero {n : Nat} {f : Nat → Nat} (h : ∀ j, j < n → f j = 0) : xs n f = 0 := by
  induction n with
  | zero => rfl
  | succ n ih =>
    show xs n f ^^^ f n = 0
    rw [ih fun j hj => h j (by omega), h n (by omega)]; rfl
theorem xs_lt {n : Nat} {f : Nat → Nat} (h : ∀ j, j < n → f j < 256) : xs n f < 256 := by
  induction n with
  | zero => exact (by decide : 0 < 256)
  | succ n ih => exact xor_byte (ih fun j hj => h j (by omega)) (h n (by omega))
theorem xs_xor (n : Nat) (f g : Nat → Nat) : xs n (fun j => f j ^^^ g j) = xs n f ^^^ xs n g := by
  induction n with
  | zero => exact (Nat.xor_self 0).symm
  | succ n ih =>
    show xs n _ ^^^ (f n ^^^ g n) = (xs n f ^^^ f n) ^^^ (xs n g ^^^ g n)
    rw [ih, xor_swap]
theorem gm_xs (a n : Nat) (f : Nat → Nat) : gm a (xs n f) = xs n (fun j => gm a (f j)) := by
  induction n with
  | zero => exact gm_zero a
  | succ n ih =>
    show gm a (xs n f ^^^ f n) = xs n _ ^^^ gm a (f n)
    rw [gm_add, ih]
theorem xs_gm {n : Nat} {f : Nat → Nat} (h : ∀ j, j < n → f j < 256) (b : Nat) : gm (xs n f) b = xs n (fun j => gm (f j) b) := by
  induction n with
  | zero => exact zero_gm b
  | succ n ih =>
    show gm (xs n f ^^^ f n) b = xs n _ ^^^ gm (f n) b
    rw [add_gm _ (xs_lt fun j hj => h j (by omega)) (h n (by omega)), ih fun j hj => h j (by omega)]
/-- Only one term. -/
theorem xs_single {n p : Nat} (hp : p < n) {f : Nat → Nat} (h : ∀ j, j < n → j ≠ p → f j = 0) : xs n f = f p := by
  induction n with
  | zero => omega
  | succ n ih =>
    show xs n f ^^^ f n = f p
    by_cases e : p = n
    · subst e
      rw [xs_zero fun j hj => h j (by omega) (by omega), Nat.zero_xor]
    · rw [ih (by omega) fun j hj hne => h j (by omega) hne, h n (by omega) (by omega), Nat.xor_zero]
/-- The sums may be told in either order. -/
theorem xs_comm (m n : Nat) (f : Nat → Nat → Nat) : xs m (fun i => xs n (fun j => f i j)) = xs n (fun j => xs m (fun i => f i j)) := by
  induction m with
  | zero => exact (xs_zero fun j _ => rfl).symm
  | succ m ih =>
    show xs m _ ^^^ xs n (fun j => f m j) = xs n (fun j => xs m (fun i => f i j) ^^^ f m j)
    rw [ih, xs_xor]
/-- Behind n all are 0. -/
theorem xs_more {n m : Nat} (h : n ≤ m) {f : Nat → Nat} (hz : ∀ j, n ≤ j → j < m → f j = 0) : xs m f = xs n f := by
  induction m with
  | zero => obtain rfl : n = 0 := by omega
            rfl
  | succ m ih =>
    by_cases e : n = m + 1
    · subst e; rfl
    · show xs m f ^^^ f m = xs n f
      rw [ih (by omega) fun j h1 h2 => hz j h1 (by omega), hz m (by omega) (by omega), Nat.xor_zero]
/-- The first term by itself. -/
theorem xs_succ (n : Nat) (f : Nat → Nat) : xs (n + 1) f = f 0 ^^^ xs n (fun j => f (j + 1)) := by
  induction n with
  | zero => show 0 ^^^ f 0 = f 0 ^^^ 0; rw [Nat.zero_xor, Nat.xor_zero]
  | succ n ih =>
    show xs (n + 1) f ^^^ f (n + 1) = f 0 ^^^ (xs n (fun j => f (j + 1)) ^^^ f (n + 1))
    rw [ih, Nat.xor_assoc]
/-- A place in the middle taken out. -/
def skip (p j : Nat) : Nat := if j < p then j else j + 1
theorem xs_skip {n p : Nat} (hp : p ≤ n) (f : Nat → Nat) : xs (n + 1) f = xs n (fun j => f (skip p j)) ^^^ f p := by
  induction n with
  | zero => obtain rfl : p = 0 := by omega
            rfl
  | succ n ih =>
    by_cases e : p = n + 1
    · subst e
      show xs (n + 1) f ^^^ f (n + 1) = _ ^^^ f (n + 1)
      rw [xs_congr (n := n + 1) (g := fun j => f (skip (n + 1) j)) fun j hj => by simp [skip, hj]]
    · show xs (n + 1) f ^^^ f (n + 1) = (xs n (fun j => f (skip p j)) ^^^ f (skip p n)) ^^^ f p
      rw [ih (by omega)]
      have : skip p n = n + 1 := by unfold skip; rw [if_neg (by omega)]
      rw [this, Nat.xor_assoc, Nat.xor_assoc, Nat.xor_comm (f p)]

/-- A functional at a vector. -/
def dot (n : Nat) (c v : Nat → Nat) : Nat := xs n (fun j => gm (c j) (v j))
theorem dot_lt {n : Nat} {c : Nat → Nat} (v : Nat → Nat) (h : ∀ j, j < n → c j < 256) : dot n c v < 256 := xs_lt fun j hj => gm_lt _ (h j hj)
theorem dot_xor {n : Nat} {c d : Nat → Nat} (v : Nat → Nat) (hc : ∀ j, j < n → c j < 256) (hd : ∀ j, j < n → d j < 256) : dot n (fun j => c j ^^^ d j) v = dot n c v ^^^ dot n d v := by
  unfold dot
  rw [← xs_xor]
  exact xs_congr fun j hj => add_gm _ (hc j hj) (hd j hj)
theorem dot_scale {n a : Nat} (ha : a < 256) {c v : Nat → Nat} (hc : ∀ j, j < n → c j < 256) (hv : ∀ j, j < n → v j < 256) : dot n (fun j => gm a (c j)) v = gm a (dot n c v) := by
  unfold dot
  rw [gm_xs]
  exact xs_congr fun j hj => gm_assoc _ ha (hc j hj) (hv j hj)
theorem dot_vxor (n : Nat) (c v w : Nat → Nat) : dot n c (fun j => v j ^^^ w j) = dot n c v ^^^ dot n c w := by
  unfold dot
  rw [← xs_xor]
  exact xs_congr fun j _ => gm_add _ _ _

/-- Fewer functionals than unknowns have a common solution other than 0. -/
theorem fewer : ∀ (r n : Nat) (c : Nat → Nat → Nat), r < n → (∀ i j, i < r → j < n → c i j < 256) →
    ∃ v : Nat → Nat, (∀ j, v j < 256) ∧ (∃ j, j < n ∧ v j ≠ 0) ∧ ∀ i, i < r → dot n (c i) v = 0 := by
  intro r
  induction r with
  | zero =>
    intro n c hn _
    exact ⟨fun _ => 1, fun _ => (by decide : 1 < 256), ⟨0, hn, by decide⟩, fun i hi => by omega⟩
  | succ r ih =>
    intro n c hn hc
    by_cases hz : ∀ j, j < n → c r j = 0
    · obtain ⟨v, hv, hne, hd⟩ := ih n c (by omega) fun i j hi hj => hc i j (by omega) hj
      refine ⟨v, hv, hne, fun i hi => ?_⟩
      by_cases e : i = r
      · subst e
        exact xs_zero fun j hj => by rw [hz j hj, zero_gm]
      · exact hd i (by omega)
    · obtain ⟨p, hp⟩ : ∃ p, ¬ (p < n → c r p = 0) := Classical.not_forall.1 hz
      obtain ⟨hpn, hp0⟩ : p < n ∧ c r p ≠ 0 := by
        by_cases h : p < n
        · exact ⟨h, fun e => hp fun _ => e⟩
        · exact absurd (fun h' => absurd h' h) hp
      obtain ⟨m, rfl⟩ : ∃ m, n = m + 1 := ⟨n - 1, by omega⟩
      have hcr : ∀ j, j < m + 1 → c r j < 256 := fun j hj => hc r j (by omega) hj
      let k : Nat → Nat := fun i => gm (c i p) (gi (c r p))
      let d : Nat → Nat → Nat := fun i j => c i j ^^^ gm (k i) (c r j)
      have hk : ∀ i, i < r → k i < 256 := fun i hi => gm_lt _ (hc i p (by omega) hpn)
      have hd : ∀ i j, i < r → j < m + 1 → d i j < 256 := fun i j hi hj => xor_byte (hc i j (by omega) hj) (gm_lt _ (hk i hi))
      have hsk : ∀ j, j < m → skip p j < m + 1 := fun j hj => by unfold skip; split <;> omega
      obtain ⟨u, hu, ⟨q, hq, hqn⟩, hs⟩ := ih m (fun i j => d i (skip p j)) (by omega) fun i j hi hj => hd i _ hi (hsk j hj)
      let w : Nat := xs m (fun j => gm (c r (skip p j)) (u j))
      have hw : w < 256 := xs_lt fun j hj => gm_lt _ (hcr _ (hsk j hj))
      let v : Nat → Nat := fun j => if j < p then u j else if j = p then gm (gi (c r p)) w else u (j - 1)
      have hvs : ∀ j, v (skip p j) = u j := fun j => by
        by_cases h : j < p
        · have e : skip p j = j := if_pos h
          show (if skip p j < p then _ else _) = _
          rw [e, if_pos h]
        · have e : skip p j = j + 1 := if_neg h
          show (if skip p j < p then _ else _) = _
          rw [e, if_neg (by omega), if_neg (by omega)]; rfl
      have hvp : v p = gm (gi (c r p)) w := by show (if p < p then _ else _) = _; rw [if_neg (by omega), if_pos rfl]
      have hv : ∀ j, v j < 256 := fun j => by
        show (if _ then _ else _) < _
        split
        · exact hu _
        · split
          · exact gm_lt _ (gi_lt _)
          · exact hu _
      have hr : dot (m + 1) (c r) v = 0 := by
        unfold dot
        rw [xs_skip (p := p) (by omega), xs_congr (n := m) (g := fun j => gm (c r (skip p j)) (u j)) fun j _ => by rw [hvs], hvp, ← gm_assoc _ (hcr p hpn) (gi_lt _) hw, gm_gi (hcr p hpn) hp0, one_gm _ hw]
        exact Nat.xor_self _
      refine ⟨v, hv, ⟨skip p q, hsk q hq, by rw [hvs]; exact hqn⟩, fun i hi => ?_⟩
      by_cases e : i = r
      · subst e; exact hr
      · have hi' : i < r := by omega
        have hci : ∀ j, j < m + 1 → c i j < 256 := fun j hj => hc i j hi hj
        have h1 : dot (m + 1) (d i) v = 0 := by
          unfold dot
          rw [xs_skip (p := p) (by omega), xs_congr (n := m) (g := fun j => gm (d i (skip p j)) (u j)) fun j _ => by rw [hvs]]
          have e1 : xs m (fun j => gm (d i (skip p j)) (u j)) = 0 := hs i hi'
          have e2 : d i p = 0 := by
            show c i p ^^^ gm (gm (c i p) (gi (c r p))) (c r p) = 0
            rw [gm_assoc _ (hci p hpn) (gi_lt _) (hcr p hpn), gi_gm (hcr p hpn) hp0, gm_one _ (hci p hpn), Nat.xor_self]
          rw [e1, e2, zero_gm]; rfl
        have h2 : dot (m + 1) (d i) v = dot (m + 1) (c i) v ^^^ gm (k i) (dot (m + 1) (c r) v) := by
          rw [← dot_scale (hk i hi') hcr (fun j _ => hv j)]
          exact dot_xor v hci fun j hj => gm_lt _ (hk i hi')
        rw [h1, hr, gm_zero, Nat.xor_zero] at h2
        exact h2.symm
end Go.Proofs.Ytldlldfoaicjcaa.Lin
