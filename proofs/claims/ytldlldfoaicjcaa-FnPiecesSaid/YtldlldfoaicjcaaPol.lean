/-
  Polynomials over the plain field of 256 elements, as lists of natural numbers, no program in sight: noughts cut off the end, products, quotients and rests, values. No conditions beyond those typed.
-/
import Derived.Test.YtldlldfoaicjcaaRoot
set_option linter.unusedVariables false
namespace Go.Proofs.Ytldlldfoaicjcaa.Poly
open Go.Proofs.Ytldlldfoaicjcaa.Gf (gm gi pw)

/-- All are bytes. -/
def AllB (l : List Nat) : Prop := ∀ x ∈ l, x < 256
theorem AllB.get {l : List Nat} (h : AllB l) (i : Nat) : l.getD i 0 < 256 := by
  rw [List.getD_eq_getElem?_getD]
  cases e : l[i]? with
  | none => decide
  | some v => exact h v (List.mem_of_getElem? e)
theorem AllB.set {l : List Nat} (h : AllB l) (i : Nat) {v : Nat} (hv : v < 256) : AllB (l.set i v) := fun x hx => by
  rcases List.mem_or_eq_of_mem_set hx with hx | rfl
  · exact h x hx
  · exact hv
theorem AllB.zeros (n : Nat) : AllB (List.replicate n 0) := fun x hx => by
  rw [(List.mem_replicate.1 hx).2]; decide
theorem AllB.take {l : List Nat} (h : AllB l) (n : Nat) : AllB (l.take n) := fun x hx => h x (List.mem_of_mem_take hx)
theorem AllB.drop {l : List Nat} (h : AllB l) (n : Nat) : AllB (l.drop n) := fun x hx => h x (List.mem_of_mem_drop hx)
theorem AllB.append {l m : List Nat} (h : AllB l) (k : AllB m) : AllB (l ++ m) := fun x hx => (List.mem_append.1 hx).elim (h x) (k x)
theorem AllB.nil : AllB [] := fun x hx => by cases hx
theorem AllB.cons {a : Nat} {l : List Nat} (ha : a < 256) (h : AllB l) : AllB (a :: l) := fun x hx => by
  rcases List.mem_cons.1 hx with rfl | hx
  · exact ha
  · exact h x hx
theorem AllB.head {a : Nat} {l : List Nat} (h : AllB (a :: l)) : a < 256 := h a List.mem_cons_self
theorem AllB.tail {a : Nat} {l : List Nat} (h : AllB (a :: l)) : AllB l := fun x hx => h x (List.mem_cons_of_mem _ hx)
/-- The first n numbers without noughts at their end. -/
def trN (l : List Nat) : Nat → List Nat
  | 0 => []
  | n + 1 => if l.getD n 0 = 0 then trN l n else l.take (n + 1)
def tr (l : List Nat) : List Nat := trN l l.length
theorem trN_length (l : List Nat) : ∀ n, (trN l n).length ≤ n
  | 0 => Nat.le_refl _
  | n + 1 => by
    unfold trN
    split
    · exact Nat.le_succ_of_le (trN_length l n)
    · rw [List.length_take]; omega
theorem tr_length (l : List Nat) : (tr l).length ≤ l.length := trN_length l _
theorem trN_bytes {l : List Nat} (h : AllB l) : ∀ n, AllB (trN l n)
  | 0 => AllB.nil
  | n + 1 => by
    unfold trN
    split
    · exact trN_bytes h n
    · exact h.take _
theorem tr_bytes {l : List Nat} (h : AllB l) : AllB (tr l) := trN_bytes h _
theorem trN_zeros (l : List Nat) (m : Nat) : ∀ n, n ≤ l.length → trN (l ++ List.replicate m 0) n = trN l n
  | 0, _ => rfl
  | n + 1, h => by
    unfold trN
    have e : (l ++ List.replicate m 0).getD n 0 = l.getD n 0 := by
      simp only [List.getD_eq_getElem?_getD]
      rw [List.getElem?_append_left (by omega)]
    rw [e, trN_zeros l m n (by omega), List.take_append_of_le_length h]
theorem trN_more (l : List Nat) (m : Nat) : ∀ d, trN (l ++ List.replicate m 0) (l.length + d) = trN (l ++ List.replicate m 0) l.length
  | 0 => rfl
  | d + 1 => by
    have e : (l ++ List.replicate m 0).getD (l.length + d) 0 = 0 := by
      simp only [List.getD_eq_getElem?_getD]
      rw [List.getElem?_append_right (by omega)]
      by_cases h : d < m
      · simp [h]
      · simp [h]
    have u : trN (l ++ List.replicate m 0) (l.length + d + 1) = if (l ++ List.replicate m 0).getD (l.length + d) 0 = 0 then trN (l ++ List.replicate m 0) (l.length + d) else (l ++ List.replicate m 0).take (l.length + d + 1) := rfl
    rw [← Nat.add_assoc, u, if_pos e]
    exact trN_more l m d
/-- Noughts behind the end don't matter. -/
theorem tr_zeros (l : List Nat) (m : Nat) : tr (l ++ List.replicate m 0) = tr l := by
  unfold tr
  rw [List.length_append, List.length_replicate, trN_more, trN_zeros _ _ _ (Nat.le_refl _)]

/-- a times q is added to out from place i on. -/
def mrow (a : Nat) : List Nat → Nat → List Nat → List Nat
  | [], _, out => out
  | b :: q, i, out => mrow a q (i + 1) (out.set i (out.getD i 0 ^^^ gm a b))
theorem mrow_length (a : Nat) : ∀ q i out, (mrow a q i out).length = out.length
  | [], _, _ => rfl
  | b :: q, i, out => by unfold mrow; rw [mrow_length a q]; exact List.length_set ..
theorem mrow_bytes {a : Nat} (ha : a < 256) : ∀ {q} i {out}, AllB out → AllB (mrow a q i out)
  | [], _, _, h => h
  | b :: q, i, out, h => by
    unfold mrow
    exact mrow_bytes ha _ (h.set _ (Gf.xor_byte (h.get _) (Gf.gm_lt _ ha)))
/-- p times q, p from its place i on. -/
def mpA (q : List Nat) : List Nat → Nat → List Nat → List Nat
  | [], _, out => out
  | a :: p, i, out => mpA q p (i + 1) (mrow a q i out)
theorem mpA_length (q : List Nat) : ∀ p i out, (mpA q p i out).length = out.length
  | [], _, _ => rfl
  | a :: p, i, out => by unfold mpA; rw [mpA_length q p, mrow_length]
theorem mpA_bytes {q : List Nat} : ∀ {p} i {out}, AllB p → AllB out → AllB (mpA q p i out)
  | [], _, _, _, h => h
  | a :: p, i, out, hp, h => by unfold mpA; exact mpA_bytes _ hp.tail (mrow_bytes hp.head _ h)
/-- The product. -/
def mulP (p q : List Nat) : List Nat := tr (mpA q p 0 (List.replicate (p.length + q.length) 0))
theorem mulP_bytes {p : List Nat} (q : List Nat) (hp : AllB p) : AllB (mulP p q) := tr_bytes (mpA_bytes _ hp (AllB.zeros _))
theorem mulP_length (p q : List Nat) : (mulP p q).length ≤ p.length + q.length := by
  have := tr_length (mpA q p 0 (List.replicate (p.length + q.length) 0))
  rw [mpA_length, List.length_replicate] at this
  exact this
/-- The value at x. -/
def gev (p : List Nat) (x : Nat) : Nat := p.foldr (fun c v => gm v x ^^^ c) 0
theorem gev_lt {p : List Nat} (h : AllB p) (x : Nat) : gev p x < 256 := by
  induction p with
  | nil => exact (by decide : 0 < 256)
  | cons c p ih => exact Gf.xor_byte (Gf.gm_lt _ (ih h.tail)) h.head
/-- The product of all x and 2 to the k. -/
def genA : Nat → Nat → List Nat → List Nat
  | 0, _, acc => acc
  | d + 1, k, acc => genA d (k + 1) (mulP acc [pw 2 k, 1])
def gen (wrong : Nat) : List Nat := genA (2 * wrong) 0 [1]
theorem genA_bytes : ∀ d k {acc}, AllB acc → AllB (genA d k acc)
  | 0, _, _, h => h
  | d + 1, k, acc, h => genA_bytes d _ (mulP_bytes _ h)
theorem gen_bytes (wrong : Nat) : AllB (gen wrong) := genA_bytes _ _ (AllB.cons (by decide) AllB.nil)
theorem genA_length : ∀ d k acc, (genA d k acc).length ≤ acc.length + 2 * d
  | 0, _, _ => Nat.le_refl _
  | d + 1, k, acc => by
    unfold genA
    have h1 := genA_length d (k + 1) (mulP acc [pw 2 k, 1])
    have h2 := mulP_length acc [pw 2 k, 1]
    simp only [List.length_cons, List.length_nil] at h2
    omega
/-- The steps of a division, from place i - 1 down: the quotient's numbers (the highest last) and what is left. -/
def dvA (q : List Nat) (inv : Nat) : Nat → List Nat → List Nat → List Nat × List Nat
  | 0, quo, rest => (quo, rest)
  | i + 1, quo, rest => dvA q inv i (quo.set i (gm (rest.getD (i + q.length - 1) 0) inv)) (mrow (gm (rest.getD (i + q.length - 1) 0) inv) q i rest)
end Go.Proofs.Ytldlldfoaicjcaa.Poly
