/-
  WHAT A LAW HOLDS IN MEMORY: lists of rows and rows of whole numbers of its own, made one after the other, no two of which share memory, in one word. No program in sight. No conditions beyond those typed.
-/
import Derived.Test.YtldlldfoaicjcaaMx
import Derived.Test.YtldlldfoaicjcaaWN
set_option linter.unusedVariables false
namespace Go.Proofs.Ytldlldfoaicjcaa.Env
open Go.RowKit Go.Proofs.YtldlldfoaicjcaaW.PrintWords Go.Proofs.Ytldlldfoaicjcaa.Mx

/-- A list of rows, or a row. -/
inductive It where
  | mat (m : List (List Int))
  | row (x : List Int)
  | ro (m : List (List Int))
  /-- One block that is kept apart, of which nothing is said. -/
  | hole (g : Nat)
/-- The rows that are read. -/
def It.rows : It → Option (List (List Int))
  | mat m => some m
  | row _ => none
  | ro m => some m
  | hole _ => none
def It.n : It → Nat
  | mat m => m.length
  | row x => x.length
  | ro m => m.length
  | hole _ => 0
def holds (e t : Nat) (w : World) (lo hi : Nat) (v : Value) : It → Prop
  | .mat m => ∃ vs, Mx e t w lo hi v m vs
  | .row x => (Kd.int .i64).R t w lo (fun k => k < hi) v x
  | .ro m => (Kd.slice t (Kd.int .i64)).N e w lo (fun k => lo ≤ k ∧ k < hi) v m
  | .hole g => lo ≤ g ∧ g < hi
/-- Intervals, the newest ahead; each lies above those behind it. -/
def Chain (b : Nat) : Nat → List (Nat × Nat) → Prop
  | top, [] => b ≤ top
  | top, p :: I => p.1 ≤ p.2 ∧ p.2 ≤ top ∧ Chain b p.1 I
def Lies (e t b : Nat) (w : World) (top : Nat) (L : List (Value × It)) : Prop := ∃ I : List (Nat × Nat), I.length = L.length ∧ Chain b top I ∧ ∀ (i : Nat) (p : Nat × Nat) (q : Value × It), I[i]? = some p → L[i]? = some q → holds e t w p.1 p.2 q.1 q.2
def Env (e t : Nat) (w0 w : World) (L : List (Value × It)) : Prop := Below w0.heap.size w0 w ∧ Lies e t w0.heap.size w w.heap.size L
section
variable {e t b lo hi top : Nat} {w w0 w1 : World} {v : Value} {it it' : It} {L : List (Value × It)} {I : List (Nat × Nat)} {p q : Nat × Nat}
theorem Chain.base : ∀ {I : List (Nat × Nat)} {top : Nat}, Chain b top I → b ≤ top
  | [], _, h => h
  | p :: I, top, ⟨h1, h2, h3⟩ => by have := h3.base; omega
theorem Chain.up {top' : Nat} : ∀ {I : List (Nat × Nat)} {top : Nat}, Chain b top I → top ≤ top' → Chain b top' I
  | [], _, h, hl => Nat.le_trans h hl
  | p :: I, top, ⟨h1, h2, h3⟩, hl => ⟨h1, Nat.le_trans h2 hl, h3⟩
theorem Chain.get : ∀ {I : List (Nat × Nat)} {top : Nat} (i : Nat) {p : Nat × Nat}, Chain b top I → I[i]? = some p → b ≤ p.1 ∧ p.1 ≤ p.2 ∧ p.2 ≤ top
  | [], _, _, _, _, h => by simp at h
  | q :: I, top, 0, p, ⟨h1, h2, h3⟩, h => by
    injection h with h
    subst h
    exact ⟨h3.base, h1, h2⟩
  | q :: I, top, i + 1, p, ⟨h1, h2, h3⟩, h => by
    have := h3.get i (by simpa using h)
    exact ⟨this.1, this.2.1, by omega⟩
theorem Chain.apart : ∀ {I : List (Nat × Nat)} {top : Nat} (i j : Nat) {p q : Nat × Nat}, Chain b top I → i < j → I[i]? = some p → I[j]? = some q → q.2 ≤ p.1
  | [], _, _, _, _, _, _, _, h, _ => by simp at h
  | r :: I, top, 0, j + 1, p, q, ⟨h1, h2, h3⟩, _, hp, hq => by
    injection hp with hp
    subst hp
    exact (h3.get j (by simpa using hq)).2.2
  | r :: I, top, i + 1, j + 1, p, q, ⟨h1, h2, h3⟩, hij, hp, hq => h3.apart i j (by omega) (by simpa using hp) (by simpa using hq)
theorem Chain.ne {i j : Nat} (h : Chain b top I) (hij : i ≠ j) (hp : I[i]? = some p) (hq : I[j]? = some q) : p.2 ≤ q.1 ∨ q.2 ≤ p.1 := by
  rcases Nat.lt_or_gt_of_ne hij with h1 | h1
  · exact .inr (h.apart i j h1 hp hq)
  · exact .inl (h.apart j i h1 hq hp)
theorem holds.moved (h : holds e t w lo hi v it) (hm : ∀ k, lo ≤ k → k < hi → k < w.heap.size → w1.heap[k]? = w.heap[k]?) : holds e t w1 lo hi v it := by
  cases it with
  | mat m => obtain ⟨vs, h⟩ := h; exact ⟨vs, h.moved hm⟩
  | row x => exact row_moved h (fun k hk hlt => by have := row_lo h k hk; exact hm k this.1 this.2.1 hlt)
  | ro m => exact Kd.N_step h (fun k hk hlt => hm k hk.1 hk.2 hlt)
  | hole g => exact h
theorem holds.only {lo' hi' : Nat} (h : holds e t w lo hi v it) (ho : Only lo' hi' w w1) (hd : hi ≤ lo' ∨ hi' ≤ lo) : holds e t w1 lo hi v it := h.moved (fun k h1 h2 hk => ho.block k hk (by omega))
theorem holds.below (h : holds e t w lo hi v it) (hb : Below w.heap.size w w1) : holds e t w1 lo hi v it := h.moved (fun k _ _ hk => hb.block k hk)
theorem Lies.base (h : Lies e t b w top L) : b ≤ top := by obtain ⟨I, _, h, _⟩ := h; exact h.base
theorem Lies.below (hb : Below w.heap.size w w1) (h : Lies e t b w top L) : Lies e t b w1 top L := by
  obtain ⟨I, h1, h2, h3⟩ := h
  exact ⟨I, h1, h2, fun i p q hp hq => (h3 i p q hp hq).below hb⟩
theorem Lies.up {top' : Nat} (h : Lies e t b w top L) (hl : top ≤ top') : Lies e t b w top' L := by
  obtain ⟨I, h1, h2, h3⟩ := h
  exact ⟨I, h1, h2.up hl, h3⟩
theorem Lies.cons (h : Lies e t b w lo L) (h1 : lo ≤ hi) (h2 : hi ≤ top) (hh : holds e t w lo hi v it) : Lies e t b w top ((v, it) :: L) := by
  obtain ⟨I, a1, a2, a3⟩ := h
  refine ⟨(lo, hi) :: I, by simp [a1], ⟨h1, h2, a2⟩, fun i p q hp hq => ?_⟩
  match i with
  | 0 =>
    injection hp with hp
    injection hq with hq
    subst hp hq
    exact hh
  | i + 1 => exact a3 i p q (by simpa using hp) (by simpa using hq)
theorem set_get {α : Type} {l : List α} {i j : Nat} {x y : α} (h : (l.set i x)[j]? = some y) : (i = j ∧ x = y) ∨ (i ≠ j ∧ l[j]? = some y) := by
  by_cases e : i = j
  · subst e
    rw [List.getElem?_set] at h
    simp only [if_true] at h
    split at h
    · injection h with h; exact .inl ⟨rfl, h⟩
    · cases h
  · rw [List.getElem?_set_ne e] at h
    exact .inr ⟨e, h⟩
/-- An entry, and what becomes of all when it alone is turned. -/
theorem Lies.at_ (h : Lies e t b w top L) (i : Nat) {v : Value} {it : It} (hi : L[i]? = some (v, it)) :
    ∃ lo hi, b ≤ lo ∧ lo ≤ hi ∧ hi ≤ top ∧ holds e t w lo hi v it ∧ ∀ (w1 : World) (it' : It), (∀ k, k < w.heap.size → (k < lo ∨ hi ≤ k) → w1.heap[k]? = w.heap[k]?) → holds e t w1 lo hi v it' → Lies e t b w1 top (L.set i (v, it')) := by
  obtain ⟨I, a1, a2, a3⟩ := h
  have hl : i < L.length := (List.getElem?_eq_some_iff.1 hi).1
  have hp : I[i]? = some I[i] := List.getElem?_eq_getElem (by omega)
  have hg := a2.get i hp
  refine ⟨I[i].1, I[i].2, hg.1, hg.2.1, hg.2.2, a3 i _ _ hp hi, fun w1 it' hm hh => ⟨I, by simp [a1], a2, fun j p q hpj hqj => ?_⟩⟩
  rcases set_get hqj with ⟨e1, e2⟩ | ⟨e1, e2⟩
  · subst e1 e2
    rw [hp] at hpj
    injection hpj with hpj
    subst hpj
    exact hh
  · have hd := a2.ne e1 hp hpj
    exact (a3 j p q hpj e2).moved (fun k h1 h2 hk => hm k hk (by omega))
/-- Two entries. -/
theorem Lies.two (h : Lies e t b w top L) {i j : Nat} (hij : i ≠ j) {v v' : Value} {it it' : It} (hi : L[i]? = some (v, it)) (hj : L[j]? = some (v', it')) :
    ∃ lo hi lo' hi', b ≤ lo ∧ hi ≤ top ∧ b ≤ lo' ∧ hi' ≤ top ∧ holds e t w lo hi v it ∧ holds e t w lo' hi' v' it' ∧ (hi ≤ lo' ∨ hi' ≤ lo) ∧
      ∀ (w1 : World) (it1 it2 : It), (∀ k, k < w.heap.size → (k < lo ∨ hi ≤ k) → (k < lo' ∨ hi' ≤ k) → w1.heap[k]? = w.heap[k]?) → holds e t w1 lo hi v it1 → holds e t w1 lo' hi' v' it2 → Lies e t b w1 top ((L.set i (v, it1)).set j (v', it2)) := by
  obtain ⟨I, a1, a2, a3⟩ := h
  have hli : i < L.length := (List.getElem?_eq_some_iff.1 hi).1
  have hlj : j < L.length := (List.getElem?_eq_some_iff.1 hj).1
  have hp : I[i]? = some I[i] := List.getElem?_eq_getElem (by omega)
  have hq : I[j]? = some I[j] := List.getElem?_eq_getElem (by omega)
  have g1 := a2.get i hp
  have g2 := a2.get j hq
  refine ⟨I[i].1, I[i].2, I[j].1, I[j].2, g1.1, g1.2.2, g2.1, g2.2.2, a3 i _ _ hp hi, a3 j _ _ hq hj, a2.ne hij hp hq, fun w1 it1 it2 hm hh1 hh2 => ⟨I, by simp [a1], a2, fun n p q hpn hqn => ?_⟩⟩
  rcases set_get hqn with ⟨e1, e2⟩ | ⟨e1, e2⟩
  · subst e1 e2
    rw [hq] at hpn
    injection hpn with hpn
    subst hpn
    exact hh2
  · rcases set_get e2 with ⟨e3, e4⟩ | ⟨e3, e4⟩
    · subst e3 e4
      rw [hp] at hpn
      injection hpn with hpn
      subst hpn
      exact hh1
    · have hd1 := a2.ne e1 hq hpn
      have hd2 := a2.ne e3 hp hpn
      exact (a3 n p q hpn e4).moved (fun k h1 h2 hk => hm k hk (by omega) (by omega))
theorem Env.start (w : World) : Env e t w w [] := ⟨Below.refl _ _, [], rfl, Nat.le_refl _, fun i p q hp => by simp at hp⟩
theorem Env.below (h : Env e t w0 w L) (hb : Below w.heap.size w w1) : Env e t w0 w1 L := ⟨below_step h.1 hb, (h.2.below hb).up hb.size⟩
theorem Env.drewN (h : Env e t w0 w L) (n : Nat) : Env e t w0 (w.drewN n) L := h.below (pw_below_drewN (Below.refl _ _) n)
/-- A list of rows that a call has made. -/
theorem Env.mx {m : List (List Int)} {vs : List Value} (h : Env e t w0 w L) (hM : Mx e t w1 w.heap.size w1.heap.size v m vs) (hb : Below w.heap.size w w1) : Env e t w0 w1 ((v, .mat m) :: L) :=
  ⟨below_step h.1 hb, (h.2.below hb).cons hb.size (Nat.le_refl _) ⟨vs, hM⟩⟩
theorem Env.madeS {m : List (List Int)} (h : Env e t w0 w L) (het : e ≠ t) (hS : (Kd.slice t (Kd.int .i64)).S e w1 w.heap.size (fun _ => True) v m) (hb : Below w.heap.size w w1) : ∃ A c, v = .slice A m.length c ∧ Env e t w0 w1 ((.slice A m.length c, .mat m) :: L) := by
  obtain ⟨vs, hM⟩ := of_made hS
  obtain ⟨A, c, rfl, _, _⟩ := hM.C het
  exact ⟨A, c, rfl, h.mx hM hb⟩
/-- A row that a call has made. -/
theorem Env.madeR {x : List Int} (h : Env e t w0 w L) (hR : (Kd.int .i64).R t w1 w.heap.size (fun _ => True) v x) (hb : Below w.heap.size w w1) : ∃ A c, v = .slice A x.length c ∧ Env e t w0 w1 ((.slice A x.length c, .row x) :: L) := by
  obtain ⟨A, c, rfl⟩ := Kd.R_slice hR
  exact ⟨A, c, rfl, below_step h.1 hb, (h.2.below hb).cons hb.size (Nat.le_refl _) (row_made hR (Nat.le_refl _))⟩
/-- An entry as it is read. -/
theorem Env.C {A : Option Addr} {n c : Nat} {m : List (List Int)} (h : Env e t w0 w L) (het : e ≠ t) (i : Nat) (hi : L[i]? = some (.slice A n c, .mat m)) : (Kd.slice t (Kd.int .i64)).C w A m.length m := by
  obtain ⟨lo, hi', _, _, _, ⟨vs, hM⟩, _⟩ := h.2.at_ i hi
  exact (hM.C' het).2.2
theorem Env.cap {A : Option Addr} {n c : Nat} {m : List (List Int)} (h : Env e t w0 w L) (het : e ≠ t) (i : Nat) (hi : L[i]? = some (.slice A n c, .mat m)) : n ≤ c := by
  obtain ⟨lo, hi', _, _, _, ⟨vs, hM⟩, _⟩ := h.2.at_ i hi
  exact (hM.C' het).2.1
theorem Env.Cr {A : Option Addr} {n c : Nat} {x : List Int} (h : Env e t w0 w L) (i : Nat) (hi : L[i]? = some (.slice A n c, .row x)) : (Kd.int .i64).C w A x.length x := by
  obtain ⟨lo, hi', _, _, _, hR, _⟩ := h.2.at_ i hi
  exact (Kd.R_reads' hR).2.2
theorem Env.capr {A : Option Addr} {n c : Nat} {x : List Int} (h : Env e t w0 w L) (i : Nat) (hi : L[i]? = some (.slice A n c, .row x)) : n ≤ c := by
  obtain ⟨lo, hi', _, _, _, hR, _⟩ := h.2.at_ i hi
  exact (Kd.R_reads' hR).2.1
theorem Env.madeN {m : List (List Int)} (h : Env e t w0 w L) (hN : (Kd.slice t (Kd.int .i64)).N e w1 w.heap.size (fun k => w.heap.size ≤ k) v m) (hb : Below w.heap.size w w1) : ∃ A c, v = .slice A m.length c ∧ Env e t w0 w1 ((.slice A m.length c, .ro m) :: L) := by
  obtain ⟨A, c, rfl⟩ := Kd.N_slice hN
  exact ⟨A, c, rfl, below_step h.1 hb, (h.2.below hb).cons hb.size (Nat.le_refl _) (Kd.N_bound hN)⟩
/-- Rows, whoever holds them. -/
theorem Env.Cq {A : Option Addr} {n c : Nat} {m : List (List Int)} {it : It} (h : Env e t w0 w L) (het : e ≠ t) (i : Nat) (hi : L[i]? = some (.slice A n c, it)) (hm : it.rows = some m) : n ≤ c ∧ (Kd.slice t (Kd.int .i64)).C w A m.length m := by
  obtain ⟨lo, hi', _, _, _, hh, _⟩ := h.2.at_ i hi
  cases it with
  | mat m' => injection hm with hm; subst hm; obtain ⟨vs, hM⟩ := hh; exact (hM.C' het).2
  | row x => cases hm
  | ro m' => injection hm with hm; subst hm; exact (Kd.N_reads' hh).2
  | hole _ => cases hm
/-- What was read at the begin is read still. -/
theorem Env.came {A : Option Addr} {n : Nat} {m : List (List Int)} (h : Env e t w0 w L) (hC : (Kd.slice t (Kd.int .i64)).C w0 A n m) : (Kd.slice t (Kd.int .i64)).C w A n m := Kd.C_below hC h.1
theorem Env.camer {A : Option Addr} {n : Nat} {x : List Int} (h : Env e t w0 w L) (hC : (Kd.int .i64).C w0 A n x) : (Kd.int .i64).C w A n x := Kd.C_below hC h.1
/-- One entry turned. -/
theorem Env.turn (h : Env e t w0 w L) (i : Nat) (hi : L[i]? = some (v, it)) :
    ∃ lo hi, w0.heap.size ≤ lo ∧ hi ≤ w.heap.size ∧ holds e t w lo hi v it ∧ ∀ (w1 : World) (it' : It), Only lo hi w w1 → holds e t w1 lo hi v it' → Env e t w0 w1 (L.set i (v, it')) := by
  obtain ⟨lo, hi', a1, a2, a3, a4, a5⟩ := h.2.at_ i hi
  exact ⟨lo, hi', a1, a3, a4, fun w1 it' ho hh => ⟨ho.below h.1 h.1.size a1, (a5 w1 it' (fun k hk hn => ho.block k hk hn) hh).up ho.size⟩⟩
/-- A row of a list of rows, as one that may be written: what is turned in it alone turns the list there. -/
theorem Env.mrow {A : Option Addr} {n c : Nat} {m : List (List Int)} (h : Env e t w0 w L) (het : e ≠ t) {j : Nat} (hj : L[j]? = some (.slice A n c, .mat m)) {i : Nat} (hi : i < m.length) :
    ∃ g Au cu, A = some ⟨g, 0, none⟩ ∧ w.cell? ⟨g, i, none⟩ = some (.slice Au (m.getD i []).length cu) ∧ w.frozen? ⟨g, i, none⟩ = false ∧ w0.heap.size ≤ g ∧ (m.getD i []).length ≤ cu ∧
      (Kd.int .i64).R t w w0.heap.size (fun k => some k = (Value.slice Au (m.getD i []).length cu).ownBlock) (.slice Au (m.getD i []).length cu) (m.getD i []) ∧
      (∀ (w1 : World) (x' : List Int), Below w0.heap.size w0 w1 → Kept w w1 (fun k => some k = (Value.slice Au (m.getD i []).length cu).ownBlock) → (Kd.int .i64).R t w1 w0.heap.size (fun k => some k = (Value.slice Au (m.getD i []).length cu).ownBlock ∨ w.heap.size ≤ k) (.slice Au (m.getD i []).length cu) x' → Env e t w0 w1 (L.set j (.slice A n c, .mat (m.set i x')))) ∧
      (∀ (w1 : World) (j' : Nat) (v' : Value) (it' : It), j' ≠ j → L[j']? = some (v', it') → Kept w w1 (fun k => some k = (Value.slice Au (m.getD i []).length cu).ownBlock) → ∃ lo hi, holds e t w1 lo hi v' it') := by
  obtain ⟨lo, hi', a1, a2, a3, ⟨vs, hM⟩, a5⟩ := h.2.at_ j hj
  obtain ⟨u, hu⟩ := hM.at_ hi
  obtain ⟨g, cap, hv, hg0, hg1, hg2, _, hcell⟩ := hM.cells (by omega)
  injection hv with hv1 hv2 hv3
  have hc := hcell i u hu
  have e0 : m.getD i [] = m[i] := by rw [List.getD_eq_getElem?_getD, List.getElem?_eq_getElem hi]; rfl
  have hR := hM.row i m[i] u (List.getElem?_eq_getElem hi) hu
  obtain ⟨Au, cu, rfl⟩ := Kd.R_slice hR
  have hcu := (Kd.R_reads' hR).2.1
  have hlo := row_lo hR
  rw [e0]
  refine ⟨g, Au, cu, hv1, hc.1, hc.2, Nat.le_trans a1 hg0, hcu, Kd.R_mono (Kd.R_tight rfl (Kd.R_lower hR a1)) (fun k hk => hk), fun w1 x' hB hk hR' => ?_, fun w1 j' v' it' hne hj' hk => ?_⟩
  · refine ⟨hB, (a5 w1 (.mat (m.set i x')) (fun k hlt ho => hk.2 k hlt (fun he => by have := hlo k he.symm; omega)) ⟨vs, hM.put het hu (fun k hlt hne => hk.2 k hlt (fun he => hne he)) (row_base hR' (fun k hk2 => ⟨(hlo k hk2).1, (hlo k hk2).2.1⟩))⟩).up hk.1⟩
  · obtain ⟨I, b1, b2, b3⟩ := h.2
    have hl : j < L.length := (List.getElem?_eq_some_iff.1 hj).1
    have hl' : j' < L.length := (List.getElem?_eq_some_iff.1 hj').1
    have hp : I[j]? = some I[j] := List.getElem?_eq_getElem (by omega)
    have hq : I[j']? = some I[j'] := List.getElem?_eq_getElem (by omega)
    have hne2 := b2.ne hne hq hp
    obtain ⟨vs2, hM2⟩ := b3 j _ _ hp hj
    have hu2 := hM2.own
    obtain ⟨g2, cap2, hv2', hg02, hg12, hg22, _, hcell2⟩ := hM2.cells (by omega)
    obtain ⟨u2, hu2⟩ := hM2.at_ hi
    have hc2 := (hcell2 i u2 hu2).1
    injection hv2' with hv21 _ _
    have hgg : g = g2 := by
      have := hv1.symm.trans hv21
      injection this with this
      injection this
    subst hgg
    rw [hc.1] at hc2
    injection hc2 with hc2
    subst hc2
    have hlo2 := row_lo (hM2.row i m[i] _ (List.getElem?_eq_getElem hi) hu2)
    exact ⟨_, _, (b3 j' _ _ hq hj').moved (fun k h1 h2 hlt => hk.2 k hlt (fun he => by have := hlo2 k he.symm; omega))⟩
/-- One number of a row of a list of rows is read, and written. -/
theorem Env.mput {A : Option Addr} {n c : Nat} {m : List (List Int)} (h : Env e t w0 w L) (het : e ≠ t) {j : Nat} (hj : L[j]? = some (.slice A n c, .mat m)) {i q : Nat} (hi : i < m.length) (hq : q < (m.getD i []).length) :
    ∃ g gu cu, A = some ⟨g, 0, none⟩ ∧ w.cell? ⟨g, i, none⟩ = some (.slice (some ⟨gu, 0, none⟩) (m.getD i []).length cu) ∧ (m.getD i []).length ≤ cu ∧ w.cell? ⟨gu, q, none⟩ = some (.int .i64 (rd (m.getD i []) (q : Int))) ∧ w.frozen? ⟨gu, q, none⟩ = false ∧
      ∀ x : Int, Env e t w0 (w.setCell ⟨gu, q, none⟩ (.int .i64 x)) (L.set j (.slice A n c, .mat (m.set i ((m.getD i []).set q x)))) := by
  obtain ⟨g, Au, cu, hA, hc, _, hg, hcu, hR, hupd, _⟩ := h.mrow het hj hi
  obtain ⟨gu, cu', hv, hgu, hgl, cl, hcl⟩ := Kd.R_form hR (by omega)
  injection hv with hv1 _ hv3
  subst hv1 hv3
  have hcell := Kd.R_celln 0 hR (q : Int) (by omega) (by omega)
  rw [Int.toNat_natCast] at hcell
  refine ⟨g, gu, cu, hA, hc, hcu, hcell.1, hcell.2, fun x => ?_⟩
  have hp := Kd.R_putg hR (q : Int) x
  rw [Int.toNat_natCast] at hp
  exact hupd _ _ (below_set h.1 hgu) ⟨hp.2.size, fun k hk hn => hp.2.block k hk (fun he => hn (he.trans rfl))⟩ (Kd.R_mono hp.1 (fun k hk => .inl hk))
/-- Two rows change places. -/
theorem Env.mswap {A : Option Addr} {n c : Nat} {m : List (List Int)} (h : Env e t w0 w L) (het : e ≠ t) {j : Nat} (hj : L[j]? = some (.slice A n c, .mat m)) {a b : Nat} (ha : a < m.length) (hb : b < m.length) :
    ∃ g Aa ca Ab cb, A = some ⟨g, 0, none⟩ ∧ w.cell? ⟨g, a, none⟩ = some (.slice Aa (m.getD a []).length ca) ∧ w.frozen? ⟨g, a, none⟩ = false ∧ w.cell? ⟨g, b, none⟩ = some (.slice Ab (m.getD b []).length cb) ∧ w.frozen? ⟨g, b, none⟩ = false ∧
      Env e t w0 ((w.setCell ⟨g, a, none⟩ (.slice Ab (m.getD b []).length cb)).setCell ⟨g, b, none⟩ (.slice Aa (m.getD a []).length ca)) (L.set j (.slice A n c, .mat ((m.set a (m.getD b [])).set b (m.getD a [])))) := by
  obtain ⟨lo, hi', a1, a2, a3, ⟨vs, hM⟩, a5⟩ := h.2.at_ j hj
  have ea : m.getD a [] = m[a] := by rw [List.getD_eq_getElem?_getD, List.getElem?_eq_getElem ha]; rfl
  have eb : m.getD b [] = m[b] := by rw [List.getD_eq_getElem?_getD, List.getElem?_eq_getElem hb]; rfl
  obtain ⟨ua, hua⟩ := hM.at_ ha
  obtain ⟨ub, hub⟩ := hM.at_ hb
  obtain ⟨Aa, ca, rfl⟩ := Kd.R_slice (hM.row a m[a] ua (List.getElem?_eq_getElem ha) hua)
  obtain ⟨Ab, cb, rfl⟩ := Kd.R_slice (hM.row b m[b] ub (List.getElem?_eq_getElem hb) hub)
  obtain ⟨g, cap, hv, hg0, hg1, hg2, _, hcell⟩ := hM.cells (by omega)
  injection hv with hv1 hv2 hv3
  subst hv1 hv2 hv3
  have hs := Mx.swap hM het (List.getElem?_eq_getElem ha) (List.getElem?_eq_getElem hb) hua hub
  rw [ea, eb]
  refine ⟨g, Aa, ca, Ab, cb, rfl, (hcell a _ hua).1, (hcell a _ hua).2, (hcell b _ hub).1, (hcell b _ hub).2, ?_⟩
  have hO : Only lo hi' w ((w.setCell ⟨g, a, none⟩ (.slice Ab m[b].length cb)).setCell ⟨g, b, none⟩ (.slice Aa m[a].length ca)) := hs.2.mono (by omega) (by omega)
  exact ⟨hO.below h.1 h.1.size a1, (a5 _ (.mat ((m.set a m[b]).set b m[a])) (fun k hk hn => hO.block k hk hn) ⟨_, hs.1⟩).up hO.size⟩
theorem set_at {α : Type} {l : List α} {j : Nat} {x y : α} (h : l[j]? = some x) : (l.set j y)[j]? = some y := by
  have := (List.getElem?_eq_some_iff.1 h).1
  rw [List.getElem?_set_self this]
/-- Any world of which this much is known: the walk goes on in it. -/
theorem gen {P : Program} {cd : Code} {Q : Exit → Act → World → Prop} {a : Act} {W : World} (Φ : World → Prop) (h : Φ W) (k : ∀ W, Φ W → Code.wp P cd Q a W) : Code.wp P cd Q a W := k W h
/-- The same value is put to a place, or to another one: it is read here. -/
theorem cell_both {w : World} {p q : Addr} {v : Value} (h : w.cell? q = some v) : (w.setCell p v).cell? q = some v := by
  by_cases e : p = q
  · subst e; exact World.cell?_setCell_same w p v h
  · exact (World.cell?_setCell_other w p q v e).trans h
/-- A whole number's own cell, as a row of one. -/
theorem Env.box (h : Env e t w0 w L) (k : Int) : Env e t w0 (w.alloc (.cells #[.int .i64 k] t (0, 0))) ((.slice (some ⟨w.heap.size, 0, none⟩) 1 1, .row [k]) :: L) := by
  have hb : Below w.heap.size w (w.alloc (.cells #[.int .i64 k] t (0, 0))) := below_alloc (Below.refl _ _) _
  have ho := own_lit w w.heap.size t .i64 [k] (Nat.le_refl _) (by simp)
  have hR : (Kd.int .i64).R t (w.alloc (.cells #[.int .i64 k] t (0, 0))) w.heap.size (fun _ => True) (.slice (some ⟨w.heap.size, 0, none⟩) 1 1) [k] :=
    ⟨fun _ _ => trivial, [.int .i64 k], ho, Reps.snoc (ps := []) (cs := []) (Reps.none _ _) (show [Value.int .i64 k] = [Value.int .i64 k] from rfl) rfl⟩
  exact ⟨below_step h.1 hb, (h.2.below hb).cons hb.size (Nat.le_refl _) (row_made hR (Nat.le_refl _))⟩
theorem Env.boxed {gk c : Nat} {k : Int} (h : Env e t w0 w L) (i : Nat) (hi : L[i]? = some (.slice (some ⟨gk, 0, none⟩) 1 c, .row [k])) : w.cell? ⟨gk, 0, none⟩ = some (.int .i64 k) := by
  obtain ⟨ad, he, hx⟩ := Kd.at_int (h.Cr i hi) 0 (Int.le_refl _) (by show (0 : Int) < ((1 : Nat) : Int); decide)
  injection he with he
  subst he
  have : (⟨gk, 0, none⟩ : Addr).add ((0 : Int).toNat) = ⟨gk, 0, none⟩ := add_plain gk 0
  rw [this] at hx
  exact hx
theorem Env.tail {x : Value × It} (h : Env e t w0 w (x :: L)) : Env e t w0 w L := by
  obtain ⟨hb, I, h1, h2, h3⟩ := h
  cases I with
  | nil => cases h1
  | cons p I => exact ⟨hb, I, by simpa using h1, h2.2.2.up (Nat.le_trans h2.1 h2.2.1), fun i q r hq hr => h3 (i + 1) q r (by simpa using hq) (by simpa using hr)⟩
/-- One number of a row of a list of rows: read now, written behind calls that only make. -/
theorem Env.mput2 {A : Option Addr} {n c : Nat} {m : List (List Int)} (h : Env e t w0 w L) (het : e ≠ t) {j : Nat} (hj : L[j]? = some (.slice A n c, .mat m)) {i q : Nat} (hi : i < m.length) (hq : q < (m.getD i []).length) :
    ∃ g gu cu, A = some ⟨g, 0, none⟩ ∧ w.cell? ⟨g, i, none⟩ = some (.slice (some ⟨gu, 0, none⟩) (m.getD i []).length cu) ∧ (m.getD i []).length ≤ cu ∧ w.cell? ⟨gu, q, none⟩ = some (.int .i64 (rd (m.getD i []) (q : Int))) ∧ w.frozen? ⟨gu, q, none⟩ = false ∧
      ∀ w1, Below w.heap.size w w1 → w1.cell? ⟨gu, q, none⟩ = some (.int .i64 (rd (m.getD i []) (q : Int))) ∧ w1.frozen? ⟨gu, q, none⟩ = false ∧ ∀ x : Int, Env e t w0 (w1.setCell ⟨gu, q, none⟩ (.int .i64 x)) (L.set j (.slice A n c, .mat (m.set i ((m.getD i []).set q x)))) := by
  obtain ⟨g, Au, cu, hA, hc, _, hg, hcu, hR, hupd, _⟩ := h.mrow het hj hi
  obtain ⟨gu, cu', hv, hgu, hgl, cl, hcl⟩ := Kd.R_form hR (by omega)
  injection hv with hv1 _ hv3
  subst hv1 hv3
  have hcell := Kd.R_celln 0 hR (q : Int) (by omega) (by omega)
  rw [Int.toNat_natCast] at hcell
  refine ⟨g, gu, cu, hA, hc, hcu, hcell.1, hcell.2, fun w1 hb => ?_⟩
  have hR1 := Kd.R_below hR hb
  have hcell1 := Kd.R_celln 0 hR1 (q : Int) (by omega) (by omega)
  rw [Int.toNat_natCast] at hcell1
  refine ⟨hcell1.1, hcell1.2, fun x => ?_⟩
  have hp := Kd.R_putg hR1 (q : Int) x
  rw [Int.toNat_natCast] at hp
  exact hupd _ _ (below_set (below_step h.1 hb) hgu) (Kept.setCell (p := ⟨gu, q, none⟩) (Kept.of_below hb (fun k => some k = (Value.slice (some ⟨gu, 0, none⟩) (m.getD i []).length cu).ownBlock)) (.inl rfl) _) (Kd.R_mono hp.1 (fun k hk => .inl hk))
/-- A row's block is none of the list's. -/
theorem Env.mne {g gu n' cu c n : Nat} {m : List (List Int)} (h : Env e t w0 w L) (het : e ≠ t) {j : Nat} (hj : L[j]? = some (.slice (some ⟨g, 0, none⟩) n c, .mat m)) {i : Nat} (hi : i < m.length) (hc : w.cell? ⟨g, i, none⟩ = some (.slice (some ⟨gu, 0, none⟩) n' cu)) : gu ≠ g := by
  obtain ⟨lo, hi', a1, a2, a3, ⟨vs, hM⟩, a5⟩ := h.2.at_ j hj
  obtain ⟨u, hu⟩ := hM.at_ hi
  obtain ⟨g2, cap, hv, hg0, hg1, hg2, _, hcell⟩ := hM.cells (by omega)
  injection hv with hv1 _ _
  injection hv1 with hv1
  injection hv1 with hv1
  subst hv1
  have hc2 := (hcell i u hu).1
  rw [hc] at hc2
  injection hc2 with hc2
  subst hc2
  have := hM.apart het (List.getElem?_eq_getElem hi) hu gu rfl
  exact fun he => this (by rw [he]; rfl)
theorem cell_far {w : World} {g gu i q : Nat} {v x : Value} (h : w.cell? ⟨g, i, none⟩ = some v) (hne : gu ≠ g) : (w.setCell ⟨gu, q, none⟩ x).cell? ⟨g, i, none⟩ = some v :=
  (World.cell?_setCell_other w ⟨gu, q, none⟩ ⟨g, i, none⟩ x (fun he => hne (by injection he))).trans h
/-- A block is set apart when it is made. -/
theorem Env.hole {g : Nat} (h : Env e t w0 w L) (hb : Below w.heap.size w w1) (hg : w.heap.size ≤ g) (hl : g < w1.heap.size) : Env e t w0 w1 ((.slice none 0 0, .hole g) :: L) :=
  ⟨below_step h.1 hb, (h.2.below hb).cons hb.size (Nat.le_refl _) ⟨hg, hl⟩⟩
/-- What is turned in a block that is set apart leaves all else. -/
theorem Env.turned {g : Nat} (h : Env e t w0 w L) (i : Nat) (hi : L[i]? = some (v, .hole g)) (hk : KeepBut w w1 g none) (hb : Below w0.heap.size w0 w1) : Env e t w0 w1 L := by
  obtain ⟨lo, hi', a1, a2, a3, a4, a5⟩ := h.2.at_ i hi
  have hin : lo ≤ g ∧ g < hi' := a4
  have hkk : ∀ k, k < w.heap.size → (k < lo ∨ hi' ≤ k) → w1.heap[k]? = w.heap[k]? := fun k hk1 hk2 => hk.2 k hk1 (fun he => by omega) (by simp)
  have h9 := (a5 w1 (.hole g) hkk a4).up hk.1
  have hs : L.set i (v, .hole g) = L := by
    apply List.ext_getElem?
    intro q
    by_cases e : i = q
    · subst e; rw [set_at hi, hi]
    · rw [List.getElem?_set_ne e]
  rw [hs] at h9
  exact ⟨hb, h9⟩
end
end Go.Proofs.Ytldlldfoaicjcaa.Env
