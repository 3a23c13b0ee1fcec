/-
  Elimination over the plain field of 256 elements, no program in sight: matrices as functions of two places; a step keeps the solutions; what the steps make; the inverse; ranks. Conditions are typed at each lemma.
-/
import Derived.Test.YtldlldfoaicjcaaRoot
set_option linter.unusedVariables false
namespace Go.Proofs.Ytldlldfoaicjcaa.Elim
open Go.Proofs.Ytldlldfoaicjcaa.Gf Go.Proofs.Ytldlldfoaicjcaa.Lin
attribute [local irreducible] gm gi

/-- The solutions of n rows of c columns. -/
def K (n c : Nat) (M : Nat → Nat → Nat) (v : Nat → Nat) : Prop := ∀ i, i < n → dot c (M i) v = 0
def MB (n c : Nat) (M : Nat → Nat → Nat) : Prop := ∀ i j, i < n → j < c → M i j < 256
def sw (M : Nat → Nat → Nat) (a p i : Nat) : Nat → Nat := M (if i = a then p else if i = p then a else i)
/-- Rows a and p change places, the new row a is divided by its number at k, and taken from all others as often as makes them 0 at k. -/
def fstep (M : Nat → Nat → Nat) (a p k i j : Nat) : Nat :=
  if i = a then gm (sw M a p a j) (gi (sw M a p a k)) else sw M a p i j ^^^ gm (sw M a p i k) (gm (sw M a p a j) (gi (sw M a p a k)))

theorem sw_B {n c : Nat} {M : Nat → Nat → Nat} (h : MB n c M) {a p : Nat} (ha : a < n) (hp : p < n) : MB n c (sw M a p) := fun i j hi hj => by
  unfold sw
  split
  · exact h _ _ hp hj
  · split
    · exact h _ _ ha hj
    · exact h _ _ hi hj
theorem fstep_B {n c : Nat} {M : Nat → Nat → Nat} (h : MB n c M) {a p k : Nat} (ha : a < n) (hp : p < n) (hk : k < c) : MB n c (fstep M a p k) := fun i j hi hj => by
  have hs := sw_B h ha hp
  unfold fstep
  split
  · exact gm_lt _ (hs a j ha hj)
  · exact xor_byte (hs i j hi hj) (gm_lt _ (hs i k hi hk))
theorem sw_K {n c : Nat} {M : Nat → Nat → Nat} {a p : Nat} (ha : a < n) (hp : p < n) (v : Nat → Nat) : K n c (sw M a p) v ↔ K n c M v := by
  constructor
  · intro h i hi
    by_cases e1 : i = p
    · have := h a ha
      unfold sw at this
      rw [if_pos rfl] at this
      rw [e1]; exact this
    · by_cases e2 : i = a
      · have := h p hp
        unfold sw at this
        by_cases e3 : p = a
        · exact absurd (e2.trans e3.symm) e1
        · rw [if_neg e3, if_pos rfl] at this
          rw [e2]; exact this
      · have := h i hi
        unfold sw at this
        rw [if_neg e2, if_neg e1] at this
        exact this
  · intro h i hi
    unfold sw
    split
    · exact h _ hp
    · split
      · exact h _ ha
      · exact h _ hi
theorem sw_top (M : Nat → Nat → Nat) (a p j : Nat) : sw M a p a j = M p j := by unfold sw; rw [if_pos rfl]
/-- A step keeps the solutions. -/
theorem fstep_K {n c : Nat} {M : Nat → Nat → Nat} (h : MB n c M) {a p k : Nat} (ha : a < n) (hp : p < n) (hk : k < c) (h0 : M p k ≠ 0) {v : Nat → Nat} (hv : ∀ j, v j < 256) :
    K n c (fstep M a p k) v ↔ K n c M v := by
  refine Iff.trans ?_ (sw_K ha hp v)
  have hs := sw_B h ha hp
  have hx0 : sw M a p a k ≠ 0 := by rw [sw_top]; exact h0
  generalize hS : sw M a p = S at hs hx0
  have hgi := gi_lt (S a k)
  have e1 : dot c (fun j => gm (S a j) (gi (S a k))) v = gm (gi (S a k)) (dot c (S a) v) := by
    rw [← dot_scale hgi (fun j hj => hs a j ha hj) (fun j _ => hv j)]
    exact xs_congr fun j hj => by dsimp only; rw [gm_comm (hs a j ha hj) hgi]
  have hrow : ∀ i, i < n → dot c (fstep M a p k i) v = if i = a then gm (gi (S a k)) (dot c (S a) v) else dot c (S i) v ^^^ gm (S i k) (gm (gi (S a k)) (dot c (S a) v)) := by
    intro i hi
    by_cases e : i = a
    · rw [if_pos e, ← e1]
      exact xs_congr fun j hj => by unfold fstep; rw [if_pos e, hS]
    · rw [if_neg e, ← e1, ← dot_scale (hs i k hi hk) (fun j hj => gm_lt _ (hs a j ha hj)) (fun j _ => hv j), ← dot_xor v (fun j hj => hs i j hi hj) (fun j hj => gm_lt _ (hs i k hi hk))]
      exact xs_congr fun j hj => by unfold fstep; rw [if_neg e, hS]
  constructor
  · intro hK
    have h1 := hK a ha
    rw [hrow a ha, if_pos rfl, gm_eq_zero hgi (dot_lt v fun j hj => hs a j ha hj)] at h1
    have h2 : dot c (S a) v = 0 := h1.resolve_left (gi_ne (hs a k ha hk) hx0)
    intro i hi
    by_cases e : i = a
    · rw [e]; exact h2
    · have h3 := hK i hi
      rw [hrow i hi, if_neg e, h2, gm_zero, gm_zero, Nat.xor_zero] at h3
      exact h3
  · intro hK i hi
    rw [hrow i hi, hK a ha, gm_zero, gm_zero]
    split
    · rfl
    · rw [hK i hi]; rfl

/-- k columns are done: r of them, p 0 < p 1 < .., hold a 1 alone, each in a row of its own, and the rows from r on hold nothing there. -/
structure Red (n k r : Nat) (M : Nat → Nat → Nat) (p : Nat → Nat) : Prop where
  rn : r ≤ n
  lt : ∀ j, j < r → p j < k
  up : ∀ i j, i < j → j < r → p i < p j
  one : ∀ i j, i < n → j < r → M i (p j) = if i = j then 1 else 0
  low : ∀ i j, r ≤ i → i < n → j < k → M i j = 0
theorem red0 (n : Nat) (M : Nat → Nat → Nat) : Red n 0 0 M (fun _ => 0) := ⟨Nat.zero_le _, fun j hj => by omega, fun i j _ hj => by omega, fun i j _ hj => by omega, fun i j _ _ hj => by omega⟩
theorem red_none {n k r : Nat} {M : Nat → Nat → Nat} {p : Nat → Nat} (h : Red n k r M p) (hz : ∀ i, r ≤ i → i < n → M i k = 0) : Red n (k + 1) r M p where
  rn := h.rn
  lt := fun j hj => Nat.lt_succ_of_lt (h.lt j hj)
  up := h.up
  one := h.one
  low := fun i j hi hn hj => by
    by_cases e : j = k
    · rw [e]; exact hz i hi hn
    · exact h.low i j hi hn (by omega)
theorem red_some {n c k r : Nat} {M : Nat → Nat → Nat} (hB : MB n c M) {p : Nat → Nat} (h : Red n k r M p) {q : Nat} (hk : k < c) (hq : r ≤ q) (hqn : q < n) (h0 : M q k ≠ 0) :
    Red n (k + 1) (r + 1) (fstep M r q k) (fun j => if j = r then k else p j) := by
  have hr : r < n := by omega
  have hs := sw_B hB hr hqn
  have hx0 : sw M r q r k ≠ 0 := by rw [sw_top]; exact h0
  have hlow : ∀ i j, r ≤ i → i < n → j < k → sw M r q i j = 0 := fun i j hi hn hj => by
    unfold sw
    split
    · exact h.low _ _ hq hqn hj
    · split
      · exact h.low _ _ (Nat.le_refl _) hr hj
      · exact h.low _ _ hi hn hj
  have hup : ∀ i j, i < r → sw M r q i j = M i j := fun i j hi => by
    unfold sw
    rw [if_neg (by omega), if_neg (by omega)]
  refine ⟨hr, fun j hj => ?_, fun i j hi hj => ?_, fun i j hi hj => ?_, fun i j hi hn hj => ?_⟩
  · show (if j = r then k else p j) < k + 1
    split
    · omega
    · exact Nat.lt_succ_of_lt (h.lt j (by omega))
  · show (if i = r then k else p i) < (if j = r then k else p j)
    rw [if_neg (by omega)]
    split
    · exact h.lt i (by omega)
    · exact h.up i j hi (by omega)
  · show fstep M r q k i (if j = r then k else p j) = _
    by_cases e : j = r
    · rw [if_pos e]
      unfold fstep
      by_cases e2 : i = r
      · rw [if_pos e2, if_pos (by omega), gm_gi (hs r k hr hk) hx0]
      · rw [if_neg e2, if_neg (by omega), gm_gi (hs r k hr hk) hx0, gm_one _ (hs i k hi hk), Nat.xor_self]
    · rw [if_neg e]
      have hj' : j < r := by omega
      have hpj := h.lt j hj'
      have e3 : sw M r q r (p j) = 0 := hlow r (p j) (Nat.le_refl _) hr hpj
      unfold fstep
      by_cases e2 : i = r
      · rw [if_pos e2, e3, zero_gm, if_neg (by omega)]
      · rw [if_neg e2, e3, zero_gm, gm_zero, Nat.xor_zero]
        by_cases e4 : i < r
        · rw [hup i _ e4, h.one i j hi hj']
        · rw [hlow i (p j) (by omega) hi hpj, if_neg (by omega)]
  · unfold fstep
    rw [if_neg (by omega)]
    by_cases e : j = k
    · subst e
      rw [gm_gi (hs r j hr hk) hx0, gm_one _ (hs i j hn hk), Nat.xor_self]
    · rw [hlow i j (by omega) hn (by omega), hlow r j (Nat.le_refl _) hr (by omega), zero_gm, gm_zero]; rfl
/-- No rows are left: all further columns are done. -/
theorem red_full {n k k' : Nat} {M : Nat → Nat → Nat} {p : Nat → Nat} (h : Red n k n M p) (hk : k ≤ k') : Red n k' n M p :=
  ⟨h.rn, fun j hj => Nat.lt_of_lt_of_le (h.lt j hj) hk, h.up, h.one, fun i j hi hn _ => by omega⟩
theorem red_le {n k r : Nat} {M : Nat → Nat → Nat} {p : Nat → Nat} (h : Red n k r M p) : ∀ j, j < r → j ≤ p j
  | 0, _ => Nat.zero_le _
  | j + 1, hj => by
    have := red_le h j (by omega)
    have := h.up j (j + 1) (by omega) hj
    omega
/-- As many as there are columns: they are the columns, in order. -/
theorem red_id {n : Nat} {M : Nat → Nat → Nat} {p : Nat → Nat} (h : Red n n n M p) : ∀ j, j < n → p j = j := by
  have up : ∀ d j, j + d < n → p j + d ≤ p (j + d) := by
    intro d
    induction d with
    | zero => intro j _; exact Nat.le_refl _
    | succ d ih =>
      intro j hj
      have h1 := ih j (by omega)
      have h2 := h.up (j + d) (j + (d + 1)) (by omega) hj
      omega
  intro j hj
  have h1 := red_le h j hj
  have h2 := up (n - 1 - j) j (by omega)
  have h3 := h.lt (j + (n - 1 - j)) (by omega)
  omega
theorem red_r_le {n k r : Nat} {M : Nat → Nat → Nat} {p : Nat → Nat} (h : Red n k r M p) : r ≤ k := by
  by_cases e : r = 0
  · omega
  · have h1 := red_le h (r - 1) (by omega)
    have h2 := h.lt (r - 1) (by omega)
    omega

/-- The row of a reduced matrix that holds no column of its own is nothing: solutions are told by the first r rows. -/
theorem red_K {n c r : Nat} {M : Nat → Nat → Nat} {p : Nat → Nat} (h : Red n c r M p) {v : Nat → Nat} (hv : ∀ i, i < r → dot c (M i) v = 0) : K n c M v := fun i hi => by
  by_cases e : i < r
  · exact hv i e
  · exact xs_zero fun j hj => by rw [h.low i j (by omega) hi hj, zero_gm]
/-- Fewer columns of their own than columns: something other than 0 is a solution. -/
theorem red_kernel {n c r : Nat} {M : Nat → Nat → Nat} (hB : MB n c M) {p : Nat → Nat} (h : Red n c r M p) (hr : r < c) : ∃ v : Nat → Nat, (∀ j, v j < 256) ∧ (∃ j, j < c ∧ v j ≠ 0) ∧ K n c M v := by
  obtain ⟨v, h1, h2, h3⟩ := fewer r c M hr fun i j hi hj => hB i j (Nat.lt_of_lt_of_le hi h.rn) hj
  exact ⟨v, h1, h2, red_K h h3⟩
/-- What solves a reduced matrix whenever r functionals vanish on it: no more than r columns of their own. -/
theorem red_rank {n c q : Nat} {M : Nat → Nat → Nat} (hB : MB n c M) {p : Nat → Nat} (h : Red n c q M p) {r : Nat} {F : Nat → Nat → Nat} (hF : ∀ i j, i < r → j < c → F i j < 256)
    (hk : ∀ v : Nat → Nat, (∀ j, v j < 256) → (∀ i, i < r → dot c (F i) v = 0) → K n c M v) : q ≤ r := by
  apply Nat.le_of_not_lt
  intro hlt
  obtain ⟨u, hu, ⟨j0, hj0, hne⟩, hz⟩ := fewer r q (fun i j => F i (p j)) hlt fun i j hi hj => hF i _ hi (h.lt j hj)
  let v : Nat → Nat := fun t => xs q (fun j => if p j = t then u j else 0)
  have hv : ∀ t, v t < 256 := fun t => xs_lt fun j _ => by
    split
    · exact hu j
    · decide
  have hsup : ∀ g : Nat → Nat, dot c g v = dot q (fun j => g (p j)) u := by
    intro g
    unfold dot
    rw [xs_congr (g := fun t => xs q (fun j => gm (g t) (if p j = t then u j else 0))) fun t _ => gm_xs _ _ _, xs_comm]
    refine xs_congr fun j hj => ?_
    rw [xs_single (h.lt j hj) fun t _ ht => by rw [if_neg (fun e => ht e.symm), gm_zero], if_pos rfl]
  have hK := hk v hv fun i hi => by rw [hsup]; exact hz i hi
  have h1 := hK j0 (Nat.lt_of_lt_of_le hj0 h.rn)
  rw [hsup] at h1
  apply hne
  unfold dot at h1
  dsimp only at h1
  rw [xs_single hj0 fun j hj hj' => by rw [h.one j0 j (Nat.lt_of_lt_of_le hj0 h.rn) hj, if_neg (fun e => hj' e.symm), zero_gm], h.one j0 j0 (Nat.lt_of_lt_of_le hj0 h.rn) hj0, if_pos rfl, one_gm _ (hu j0)] at h1
  exact h1

/-- Two matrices side by side. -/
def side (n : Nat) (A B : Nat → Nat → Nat) (i j : Nat) : Nat := if j < n then A i j else B i (j - n)
theorem side_dot (n m : Nat) (A B : Nat → Nat → Nat) (i : Nat) (v : Nat → Nat) : dot (n + m) (side n A B i) v = dot n (A i) v ^^^ dot m (B i) (fun j => v (n + j)) := by
  unfold dot
  induction m with
  | zero =>
    show xs n _ = _ ^^^ 0
    rw [Nat.xor_zero]
    exact xs_congr fun j hj => by unfold side; rw [if_pos hj]
  | succ m ih =>
    show xs (n + m) _ ^^^ gm (side n A B i (n + m)) (v (n + m)) = xs n _ ^^^ (xs m _ ^^^ gm (B i m) (v (n + m)))
    rw [ih, Nat.xor_assoc]
    congr 2
    unfold side
    rw [if_neg (by omega), show n + m - n = m by omega]
def unit (i j : Nat) : Nat := if i = j then 1 else 0
theorem unit_ne {i j : Nat} (h : i ≠ j) : unit i j = 0 := if_neg h
theorem unit_self (i : Nat) : unit i i = 1 := if_pos rfl
theorem unit_dot {n i : Nat} (hi : i < n) {v : Nat → Nat} (hv : ∀ j, v j < 256) : dot n (unit i) v = v i := by
  unfold dot
  rw [xs_single hi fun j _ hj => by rw [unit_ne (fun e => hj e.symm), zero_gm], unit_self, one_gm _ (hv i)]
theorem unit_lt (i j : Nat) : unit i j < 256 := by unfold unit; split <;> decide
/-- The inverse: beside the unit matrix A became the unit matrix, the unit matrix B. -/
theorem inverse {n : Nat} {A B R : Nat → Nat → Nat} (hR : ∀ i j, i < n → j < n → R i j = unit i j)
    (hK : ∀ v : Nat → Nat, (∀ j, v j < 256) → (K n (n + n) (side n R B) v ↔ K n (n + n) (side n A unit) v)) :
    ∀ x y : Nat → Nat, (∀ j, x j < 256) → (∀ j, y j < 256) → ((∀ i, i < n → dot n (A i) x = y i) ↔ (∀ i, i < n → dot n (B i) y = x i)) := by
  intro x y hx hy
  let v : Nat → Nat := fun j => if j < n then x j else y (j - n)
  have hv : ∀ j, v j < 256 := fun j => by
    show (if _ then _ else _) < _
    split
    · exact hx _
    · exact hy _
  have e1 : ∀ C : Nat → Nat, dot n C v = dot n C x := fun C => xs_congr fun j hj => by
    show gm (C j) (if j < n then x j else y (j - n)) = _
    rw [if_pos hj]
  have e2 : (fun j => v (n + j)) = y := by
    funext j
    show (if n + j < n then _ else y (n + j - n)) = _
    rw [if_neg (by omega), show n + j - n = j by omega]
  have h := hK v hv
  unfold K at h
  constructor
  · intro hA i hi
    have h1 := h.2 (fun i hi => by rw [side_dot, e1, e2, unit_dot hi hy, hA i hi, Nat.xor_self]) i hi
    rw [side_dot, e1, e2] at h1
    have e3 : dot n (R i) x = x i := by
      rw [← unit_dot hi hx]
      exact xs_congr fun j hj => by rw [hR i j hi hj]
    rw [e3] at h1
    exact (xor_eq_zero h1).symm
  · intro hB i hi
    have h1 := h.1 (fun i hi => by
      have e3 : dot n (R i) x = x i := by
        rw [← unit_dot hi hx]
        exact xs_congr fun j hj => by rw [hR i j hi hj]
      rw [side_dot, e1, e2, e3, hB i hi, Nat.xor_self]) i hi
    rw [side_dot, e1, e2, unit_dot hi hy] at h1
    exact xor_eq_zero h1
/-- The product's place i, j. -/
def prod (n : Nat) (A B : Nat → Nat → Nat) (i j : Nat) : Nat := xs n (fun t => gm (A i t) (B t j))
theorem prod_dot {n m : Nat} {A B : Nat → Nat → Nat} {i : Nat} (hA : ∀ t, t < n → A i t < 256) (hB : ∀ t j, t < n → j < m → B t j < 256) {v : Nat → Nat} (hv : ∀ j, v j < 256) :
    dot m (prod n A B i) v = dot n (A i) (fun t => dot m (B t) v) := by
  unfold dot prod
  rw [xs_congr (g := fun j => xs n (fun t => gm (gm (A i t) (B t j)) (v j))) fun j hj => xs_gm (fun t ht => gm_lt _ (hA t ht)) _, xs_comm]
  refine xs_congr fun t ht => ?_
  rw [gm_xs]
  exact xs_congr fun j hj => gm_assoc _ (hA t ht) (hB t j ht hj) (hv j)
/-- Both products with the inverse are the unit matrix. -/
theorem inverse_prod {n : Nat} {A B : Nat → Nat → Nat} (hA : MB n n A) (hB : MB n n B) (h : ∀ x y : Nat → Nat, (∀ j, x j < 256) → (∀ j, y j < 256) → ((∀ i, i < n → dot n (A i) x = y i) ↔ (∀ i, i < n → dot n (B i) y = x i))) :
    (∀ i j, i < n → j < n → prod n A B i j = unit i j) ∧ (∀ i j, i < n → j < n → prod n B A i j = unit i j) := by
  have col : ∀ (C : Nat → Nat → Nat), MB n n C → ∀ i j, i < n → j < n → dot n (C i) (fun t => unit t j) = C i j := fun C hC i j hi hj => by
    unfold dot
    rw [xs_single hj fun t _ ht => by dsimp only; rw [unit_ne ht, gm_zero]]
    dsimp only
    rw [unit_self, gm_one _ (hC i j hi hj)]
  have clip : ∀ (C : Nat → Nat → Nat), MB n n C → ∀ j, j < n → ∀ t, (if t < n then C t j else 0) < 256 := fun C hC j hj t => by
    split
    · exact hC t j (by assumption) hj
    · decide
  have inn : ∀ (C D : Nat → Nat → Nat) (i j : Nat), dot n (C i) (fun t => if t < n then D t j else 0) = prod n C D i j := fun C D i j => xs_congr fun t ht => by
    dsimp only
    rw [if_pos ht]
  constructor
  · intro i j hi hj
    rw [← inn]
    exact (h (fun t => if t < n then B t j else 0) (fun t => unit t j) (clip B hB j hj) (fun t => unit_lt _ _)).2 (fun t ht => by rw [col B hB t j ht hj, if_pos ht]) i hi
  · intro i j hi hj
    rw [← inn]
    exact (h (fun t => unit t j) (fun t => if t < n then A t j else 0) (fun t => unit_lt _ _) (clip A hA j hj)).1 (fun t ht => by rw [col A hA t j ht hj, if_pos ht]) i hi
end Go.Proofs.Ytldlldfoaicjcaa.Elim
