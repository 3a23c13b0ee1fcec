/-
  WHAT A LAW HOLDS IN MEMORY: lists of rows and rows of whole numbers of its own, made one after the other, no two of which share memory, in one word. No program in sight. No conditions beyond those typed.
-/
import Derived.Test.YtncgojfhaagkkaaMx
import Derived.Test.YtncgojfhaagkkaaWN
set_option linter.unusedVariables false
namespace Go.Proofs.Ytncgojfhaagkkaa.Env
open Go.RowKit Go.Proofs.YtncgojfhaagkkaaW.PrintWords Go.Proofs.Ytncgojfhaagkkaa.Mx

/-- A list of rows, or a row. -/
inductive It where
  | mat (m : List (List Int))
  | row (x : List Int)
  | ro (m : List (List Int))
/-- The rows that are read. -/
def It.rows : It → Option (List (List Int))
  | mat m => some m
  | row _ => none
  | ro m => some m
def It.n : It → Nat
  | mat m => m.length
  | row x => x.length
  | ro m => m.length
def holds (e t : Nat) (w : World) (lo hi : Nat) (v : Value) : It → Prop
  | .mat m => ∃ vs, Mx e t w lo hi v m vs
  | .row x => (Kd.int .i64).R t w lo (fun k => k < hi) v x
  | .ro m => (Kd.slice t (Kd.int .i64)).N e w lo (fun k => lo ≤ k ∧ k < hi) v m
/-- The newest ahead; each lies above those behind it. -/
def Lies (e t b : Nat) (w : World) : Nat → List (Value × It) → Prop
  | top, [] => b ≤ top
  | top, (v, it) :: L => ∃ lo hi, lo ≤ hi ∧ hi ≤ top ∧ holds e t w lo hi v it ∧ Lies e t b w lo L
def Env (e t : Nat) (w0 w : World) (L : List (Value × It)) : Prop := Below w0.heap.size w0 w ∧ Lies e t w0.heap.size w w.heap.size L
section
variable {e t b lo hi top : Nat} {w w0 w1 : World} {v : Value} {it it' : It} {L : List (Value × It)}
theorem holds.only {lo' hi' : Nat} (h : holds e t w lo hi v it) (ho : Only lo' hi' w w1) (hd : hi ≤ lo' ∨ hi' ≤ lo) : holds e t w1 lo hi v it := by
  cases it with
  | mat m => obtain ⟨vs, h⟩ := h; exact ⟨vs, h.only ho hd⟩
  | row x => exact row_moved h (fun k hk hlt => ho.block k hlt (by have := row_lo h k hk; omega))
  | ro m => exact Kd.N_step h (fun k hk hlt => ho.block k hlt (by omega))
theorem holds.below (h : holds e t w lo hi v it) (hb : Below w.heap.size w w1) : holds e t w1 lo hi v it := by
  cases it with
  | mat m => obtain ⟨vs, h⟩ := h; exact ⟨vs, h.below hb⟩
  | row x => exact row_moved h (fun k hk hlt => hb.block k hlt)
  | ro m => exact Kd.N_below h hb
theorem Lies.base : ∀ {L : List (Value × It)} {top : Nat}, Lies e t b w top L → b ≤ top
  | [], _, h => h
  | (v, it) :: L, top, ⟨lo, hi, h1, h2, _, h4⟩ => by have := h4.base; omega
theorem Lies.below (hb : Below w.heap.size w w1) : ∀ {L : List (Value × It)} {top : Nat}, Lies e t b w top L → Lies e t b w1 top L
  | [], _, h => h
  | (v, it) :: L, top, ⟨lo, hi, h1, h2, h3, h4⟩ => ⟨lo, hi, h1, h2, h3.below hb, h4.below hb⟩
theorem Lies.above {lo' hi' : Nat} (ho : Only lo' hi' w w1) : ∀ {L : List (Value × It)} {top : Nat}, Lies e t b w top L → top ≤ lo' → Lies e t b w1 top L
  | [], _, h, _ => h
  | (v, it) :: L, top, ⟨lo, hi, h1, h2, h3, h4⟩, hl => ⟨lo, hi, h1, h2, h3.only ho (.inl (by omega)), h4.above ho (by omega)⟩
theorem Lies.up {top' : Nat} : ∀ {L : List (Value × It)} {top : Nat}, Lies e t b w top L → top ≤ top' → Lies e t b w top' L
  | [], _, h, hl => Nat.le_trans h hl
  | (v, it) :: L, top, ⟨lo, hi, h1, h2, h3, h4⟩, hl => ⟨lo, hi, h1, Nat.le_trans h2 hl, h3, h4⟩
/-- An entry, and what becomes of all when it alone is turned. -/
theorem Lies.at_ : ∀ {L : List (Value × It)} {top : Nat} (i : Nat) {v : Value} {it : It}, Lies e t b w top L → L[i]? = some (v, it) →
    ∃ lo hi, b ≤ lo ∧ lo ≤ hi ∧ hi ≤ top ∧ holds e t w lo hi v it ∧ ∀ (w1 : World) (it' : It), Only lo hi w w1 → holds e t w1 lo hi v it' → Lies e t b w1 top (L.set i (v, it'))
  | (v, it) :: L, top, 0, v', it', ⟨lo, hi, h1, h2, h3, h4⟩, he => by
    injection he with he
    injection he with he1 he2
    subst he1 he2
    exact ⟨lo, hi, h4.base, h1, h2, h3, fun w1 it' ho hh => ⟨lo, hi, h1, h2, hh, h4.above ho (Nat.le_refl _)⟩⟩
  | (v, it) :: L, top, i + 1, v', it', ⟨lo, hi, h1, h2, h3, h4⟩, he => by
    obtain ⟨lo', hi', a1, a2, a3, a4, a5⟩ := h4.at_ i (by simpa using he)
    exact ⟨lo', hi', a1, a2, by omega, a4, fun w1 it' ho hh => ⟨lo, hi, h1, h2, h3.only ho (.inr a3), a5 w1 it' ho hh⟩⟩
  | [], _, _, _, _, _, he => by simp at he
theorem Env.start (w : World) : Env e t w w [] := ⟨Below.refl _ _, Nat.le_refl _⟩
theorem Env.below (h : Env e t w0 w L) (hb : Below w.heap.size w w1) : Env e t w0 w1 L := ⟨below_step h.1 hb, (h.2.below hb).up hb.size⟩
theorem Env.drewN (h : Env e t w0 w L) (n : Nat) : Env e t w0 (w.drewN n) L := h.below (pw_below_drewN (Below.refl _ _) n)
/-- A list of rows that a call has made. -/
theorem Env.mx {m : List (List Int)} {vs : List Value} (h : Env e t w0 w L) (hM : Mx e t w1 w.heap.size w1.heap.size v m vs) (hb : Below w.heap.size w w1) : Env e t w0 w1 ((v, .mat m) :: L) :=
  ⟨below_step h.1 hb, w.heap.size, w1.heap.size, hb.size, Nat.le_refl _, ⟨vs, hM⟩, h.2.below hb⟩
theorem Env.madeS {m : List (List Int)} (h : Env e t w0 w L) (het : e ≠ t) (hS : (Kd.slice t (Kd.int .i64)).S e w1 w.heap.size (fun _ => True) v m) (hb : Below w.heap.size w w1) : ∃ A c, v = .slice A m.length c ∧ Env e t w0 w1 ((.slice A m.length c, .mat m) :: L) := by
  obtain ⟨vs, hM⟩ := of_made hS
  obtain ⟨A, c, rfl, _, _⟩ := hM.C het
  exact ⟨A, c, rfl, h.mx hM hb⟩
/-- A row that a call has made. -/
theorem Env.madeR {x : List Int} (h : Env e t w0 w L) (hR : (Kd.int .i64).R t w1 w.heap.size (fun _ => True) v x) (hb : Below w.heap.size w w1) : ∃ A c, v = .slice A x.length c ∧ Env e t w0 w1 ((.slice A x.length c, .row x) :: L) := by
  obtain ⟨A, c, rfl⟩ := Kd.R_slice hR
  exact ⟨A, c, rfl, below_step h.1 hb, w.heap.size, w1.heap.size, hb.size, Nat.le_refl _, row_made hR (Nat.le_refl _), h.2.below hb⟩
/-- An entry as it is read. -/
theorem Env.C {A : Option Addr} {n c : Nat} {m : List (List Int)} (h : Env e t w0 w L) (het : e ≠ t) (i : Nat) (hi : L[i]? = some (.slice A n c, .mat m)) : (Kd.slice t (Kd.int .i64)).C w A m.length m := by
  obtain ⟨lo, hi', _, _, _, ⟨vs, hM⟩, _⟩ := h.2.at_ i hi
  exact (hM.C' het).2.2
theorem Env.cap {A : Option Addr} {n c : Nat} {m : List (List Int)} (h : Env e t w0 w L) (het : e ≠ t) (i : Nat) (hi : L[i]? = some (.slice A n c, .mat m)) : n ≤ c := by
  obtain ⟨lo, hi', _, _, _, ⟨vs, hM⟩, _⟩ := h.2.at_ i hi
  exact (hM.C' het).2.1
theorem Env.Cr {A : Option Addr} {n c : Nat} {x : List Int} (h : Env e t w0 w L) (i : Nat) (hi : L[i]? = some (.slice A n c, .row x)) : (Kd.int .i64).C w A x.length x := by
  obtain ⟨lo, hi', _, _, _, hR, _⟩ := h.2.at_ i hi
  exact (Kd.R_reads' hR).2.2
theorem Env.capr {A : Option Addr} {n c : Nat} {x : List Int} (h : Env e t w0 w L) (i : Nat) (hi : L[i]? = some (.slice A n c, .row x)) : n ≤ c := by
  obtain ⟨lo, hi', _, _, _, hR, _⟩ := h.2.at_ i hi
  exact (Kd.R_reads' hR).2.1
theorem Env.madeN {m : List (List Int)} (h : Env e t w0 w L) (hN : (Kd.slice t (Kd.int .i64)).N e w1 w.heap.size (fun k => w.heap.size ≤ k) v m) (hb : Below w.heap.size w w1) : ∃ A c, v = .slice A m.length c ∧ Env e t w0 w1 ((.slice A m.length c, .ro m) :: L) := by
  obtain ⟨A, c, rfl⟩ := Kd.N_slice hN
  exact ⟨A, c, rfl, below_step h.1 hb, w.heap.size, w1.heap.size, hb.size, Nat.le_refl _, Kd.N_bound hN, h.2.below hb⟩
/-- Rows, whoever holds them. -/
theorem Env.Cq {A : Option Addr} {n c : Nat} {m : List (List Int)} {it : It} (h : Env e t w0 w L) (het : e ≠ t) (i : Nat) (hi : L[i]? = some (.slice A n c, it)) (hm : it.rows = some m) : n ≤ c ∧ (Kd.slice t (Kd.int .i64)).C w A m.length m := by
  obtain ⟨lo, hi', _, _, _, hh, _⟩ := h.2.at_ i hi
  cases it with
  | mat m' => injection hm with hm; subst hm; obtain ⟨vs, hM⟩ := hh; exact (hM.C' het).2
  | row x => cases hm
  | ro m' => injection hm with hm; subst hm; exact (Kd.N_reads' hh).2
/-- What was read at the begin is read still. -/
theorem Env.came {A : Option Addr} {n : Nat} {m : List (List Int)} (h : Env e t w0 w L) (hC : (Kd.slice t (Kd.int .i64)).C w0 A n m) : (Kd.slice t (Kd.int .i64)).C w A n m := Kd.C_below hC h.1
theorem Env.camer {A : Option Addr} {n : Nat} {x : List Int} (h : Env e t w0 w L) (hC : (Kd.int .i64).C w0 A n x) : (Kd.int .i64).C w A n x := Kd.C_below hC h.1
/-- One entry turned. -/
theorem Env.turn (h : Env e t w0 w L) (i : Nat) (hi : L[i]? = some (v, it)) :
    ∃ lo hi, w0.heap.size ≤ lo ∧ hi ≤ w.heap.size ∧ holds e t w lo hi v it ∧ ∀ (w1 : World) (it' : It), Only lo hi w w1 → holds e t w1 lo hi v it' → Env e t w0 w1 (L.set i (v, it')) := by
  obtain ⟨lo, hi', a1, a2, a3, a4, a5⟩ := h.2.at_ i hi
  exact ⟨lo, hi', a1, a3, a4, fun w1 it' ho hh => ⟨ho.below h.1 h.1.size a1, (a5 w1 it' ho hh).up ho.size⟩⟩
end
end Go.Proofs.Ytncgojfhaagkkaa.Env
