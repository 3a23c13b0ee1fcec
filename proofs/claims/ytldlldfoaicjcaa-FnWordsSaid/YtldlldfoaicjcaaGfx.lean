/-
  More of the plain field of 256 elements, no program in sight: the powers of 2 are all but 0, each once; orders divide 255. No conditions beyond those typed.
-/
import Derived.Test.YtldlldfoaicjcaaRoot
set_option linter.unusedVariables false
namespace Go.Proofs.Ytldlldfoaicjcaa.Gfx
open Go.Proofs.Ytldlldfoaicjcaa.Gf

/-- The powers of 2 from a on, n of them, by doubling. -/
def dbl : Nat → Nat → List Nat
  | 0, _ => []
  | n + 1, a => a :: dbl n (xt a)
theorem gm_two : ∀ a, a < 256 → gm a 2 = xt a := by decide +kernel
theorem dbl_get : ∀ (n i s : Nat), i < n → (dbl n (pw 2 s)).getD i 0 = pw 2 (s + i)
  | 0, _, _, h => by omega
  | n + 1, 0, s, _ => rfl
  | n + 1, i + 1, s, h => by
    show (dbl n (xt (pw 2 s))).getD i 0 = _
    rw [← gm_two _ (pw_lt s)]
    have := dbl_get n i (s + 1) (by omega)
    rw [show s + (i + 1) = s + 1 + i by omega]
    exact this
theorem pw2_dbl {i : Nat} (h : i < 255) : pw 2 i = (dbl 255 1).getD i 0 := by
  have := dbl_get 255 i 0 h
  rw [Nat.zero_add] at this
  exact this.symm
/-- Where a number stands in a list. -/
def whereis : List Nat → Nat → Nat → Nat
  | [], _, i => i
  | a :: l, x, i => if a = x then i else whereis l x (i + 1)
theorem dbl_once : ∀ i, i < 255 → whereis (dbl 255 1) ((dbl 255 1).getD i 0) 0 = i := by decide +kernel
theorem pw2_inj {i j : Nat} (hi : i < 255) (hj : j < 255) (h : pw 2 i = pw 2 j) : i = j := by
  rw [pw2_dbl hi, pw2_dbl hj] at h
  have a := dbl_once i hi
  rw [h, dbl_once j hj] at a
  exact a.symm
end Go.Proofs.Ytldlldfoaicjcaa.Gfx
