/- CodeMatrix answers as the reference's CodeMatrix does, turns nothing that it was handed, and answers in memory of its own: the walk of the law. No conditions beyond the row's own. -/
import Derived.Test.YtekadhniinpdfaaMFnExactCodeMatrixx3
import Derived.Test.YtekadhniinpdfaaMFnExactCodeMatrixx0
import Derived.Test.YtekadhniinpdfaaMFnExactCodeMatrixx1
import Derived.Test.YtekadhniinpdfaaMFnExactCodeMatrixx2
import Derived.Test.YtekadhniinpdfaaBit
import Derived.Test.YtekadhniinpdfaaPoly
import Derived.Test.YtekadhniinpdfaaMat
import Derived.Test.YtekadhniinpdfaaMx
import Derived.Test.YtekadhniinpdfaaEnv
set_option linter.unusedVariables false
set_option linter.unusedSimpArgs false
namespace Go.Proofs.Ytekadhniinpdfaa.Pure
open Go.RowKit Go.Proofs.Ytekadhniinpdfaa Go.Proofs.Ytekadhniinpdfaa.MFnExactCodeMatrix Go.Proofs.YtekadhniinpdfaaW.PrintWords Go.Proofs.YtekadhniinpdfaaW.PrintLast Go.Proofs.Ytekadhniinpdfaa.Bit

theorem impl_within_eq (a b c : Int) : impl_within.f a b c = some (decide (b ≤ a ∧ a ≤ c)) := by
  unfold impl_within.f
  by_cases h : a ≥ b
  · rw [if_pos h]; congr 1; simp [show b ≤ a from h]
  · rw [if_neg h]; congr 1; simp; omega

theorem rd_nat (l : List Int) (i : Nat) (h : i < l.length) : rd l (i : Int) = l[i] := by
  unfold rd
  simp [List.getD_eq_getElem?_getD, List.getElem?_eq_getElem h]
theorem wrap_succ (i : Nat) (h : i < 9223372036854775807) : wrap64 ((i : Int) + 1) = ((i + 1 : Nat) : Int) := by rw [wrap_id (by omega) (by omega)]; omega

theorem laws_eqIntS_l0 (l m : List Int) (hlm : l.length = m.length) (hl : l.length ≤ 140737488351232) : ∀ d i : Nat, i + d = l.length → Ev (fun k => laws_eqIntS.l0 k l m (i : Int)) (decide (l.drop i = m.drop i)) := by
  intro d
  induction d with
  | zero =>
    intro i hi
    obtain rfl : i = l.length := by omega
    have e : decide (l.drop l.length = m.drop l.length) = true := by
      have e2 : m.drop l.length = [] := by rw [hlm, List.drop_length]
      rw [e2, List.drop_length]; rfl
    rw [e]
    exact Ev.step (f := fun _ => some true) (fun k => by simp only [laws_eqIntS.l0]; rw [if_neg (by omega)]) (Ev.now _)
  | succ d ih =>
    intro i hi
    have hlt : i < l.length := by omega
    have hlt2 : i < m.length := by omega
    rw [List.drop_eq_getElem_cons hlt, List.drop_eq_getElem_cons hlt2]
    by_cases e : l[i] = m[i]
    · have : decide (l[i] :: l.drop (i + 1) = m[i] :: m.drop (i + 1)) = decide (l.drop (i + 1) = m.drop (i + 1)) := by simp only [List.cons.injEq, e, true_and]
      rw [this]
      refine Ev.step (f := fun k => laws_eqIntS.l0 k l m ((i + 1 : Nat) : Int)) (fun k => ?_) (ih (i + 1) (by omega))
      simp only [laws_eqIntS.l0, rd_nat l i hlt, rd_nat m i hlt2, wrap_succ i (by omega)]
      rw [if_pos (by omega), if_pos (by omega), if_pos (by omega), if_pos e]
    · have : decide (l[i] :: l.drop (i + 1) = m[i] :: m.drop (i + 1)) = false := by simp only [List.cons.injEq, e, false_and, decide_false]
      rw [this]
      refine Ev.step (f := fun k => some false) (fun k => ?_) (Ev.now _)
      simp only [laws_eqIntS.l0, rd_nat l i hlt, rd_nat m i hlt2, wrap_succ i (by omega)]
      rw [if_pos (by omega), if_pos (by omega), if_pos (by omega), if_neg e]
theorem laws_eqIntS_ev (l m : List Int) (hl : l.length ≤ 140737488351232) : Ev (fun k => laws_eqIntS.f k l m) (decide (l = m)) := by
  unfold laws_eqIntS.f
  by_cases h : l.length = m.length
  · simp only [if_pos (show (l.length : Int) = (m.length : Int) by omega)]
    exact laws_eqIntS_l0 l m h hl l.length 0 (by omega)
  · simp only [if_neg (show ¬ (l.length : Int) = (m.length : Int) by omega)]
    have : decide (l = m) = false := by simp only [decide_eq_false_iff_not]; rintro rfl; exact h rfl
    rw [this]
    exact Ev.now _

theorem rdL_nat (l : List (List Int)) (i : Nat) (h : i < l.length) : rd_L1 l (i : Int) = l[i] := by
  unfold rd_L1
  simp [List.getD_eq_getElem?_getD, List.getElem?_eq_getElem h]

theorem laws_eqIntSS_l0 (l m : List (List Int)) (hlm : l.length = m.length) (hl : l.length ≤ 140737488351232) (hr : ∀ r ∈ l, r.length ≤ 140737488351232) : ∀ d i : Nat, i + d = l.length → Ev (fun k => laws_eqIntSS.l0 k l m (i : Int)) (decide (l.drop i = m.drop i)) := by
  intro d
  induction d with
  | zero =>
    intro i hi
    obtain rfl : i = l.length := by omega
    have e : decide (l.drop l.length = m.drop l.length) = true := by
      have e2 : m.drop l.length = [] := by rw [hlm, List.drop_length]
      rw [e2, List.drop_length]; rfl
    rw [e]
    exact Ev.step (f := fun _ => some true) (fun k => by rw [laws_eqIntSS.l0.eq_2, if_neg (by omega)]) (Ev.now _)
  | succ d ih =>
    intro i hi
    have hlt : i < l.length := by omega
    have hlt2 : i < m.length := by omega
    rw [List.drop_eq_getElem_cons hlt, List.drop_eq_getElem_cons hlt2]
    have E := laws_eqIntS_ev l[i] m[i] (hr _ (List.getElem_mem hlt))
    refine Ev.step (f := fun k => (laws_eqIntS.f k l[i] m[i]).bind fun t => if t = true then laws_eqIntSS.l0 k l m ((i + 1 : Nat) : Int) else some false) (fun k => ?_) (Ev.bind (f := fun k t => if t = true then laws_eqIntSS.l0 k l m ((i + 1 : Nat) : Int) else some false) E ?_)
    · rw [laws_eqIntSS.l0.eq_2, if_pos (by omega), if_pos (by omega), if_pos (by omega), rdL_nat l i hlt, rdL_nat m i hlt2, wrap_succ i (by omega)]
    · by_cases e : l[i] = m[i]
      · have e2 : decide (l[i] :: l.drop (i + 1) = m[i] :: m.drop (i + 1)) = decide (l.drop (i + 1) = m.drop (i + 1)) := by simp only [List.cons.injEq, e, true_and]
        rw [e2, decide_eq_true e]
        simp only [if_true]
        exact ih (i + 1) (by omega)
      · have e2 : decide (l[i] :: l.drop (i + 1) = m[i] :: m.drop (i + 1)) = false := by simp only [List.cons.injEq, e, false_and, decide_false]
        rw [e2, decide_eq_false e]
        simp only [Bool.false_eq_true, if_false]
        exact Ev.now _
theorem laws_eqIntSS_ev (l m : List (List Int)) (hl : l.length ≤ 140737488351232) (hr : ∀ r ∈ l, r.length ≤ 140737488351232) : Ev (fun k => laws_eqIntSS.f k l m) (decide (l = m)) := by
  unfold laws_eqIntSS.f
  by_cases h : l.length = m.length
  · simp only [if_pos (show (l.length : Int) = (m.length : Int) by omega)]
    exact laws_eqIntSS_l0 l m h hl hr l.length 0 (by omega)
  · simp only [if_neg (show ¬ (l.length : Int) = (m.length : Int) by omega)]
    have : decide (l = m) = false := by simp only [decide_eq_false_iff_not]; rintro rfl; exact h rfl
    rw [this]
    exact Ev.now _
theorem laws_eqIntSS_same (l : List (List Int)) (hl : l.length ≤ 1048576) (hr : ∀ r ∈ l, r.length ≤ 1048576) : ∃ K, laws_eqIntSS.f K l l = some true := by
  have := laws_eqIntSS_ev l l (by omega) (fun r h => by have := hr r h; omega)
  rw [decide_eq_true rfl] at this
  exact this.rounds

/-- The numbers m, m + 1, .., n of them. -/
def marks (m n : Nat) : List Int := (List.range n).map fun j => ((m + j : Nat) : Int)
theorem marks_length (m n : Nat) : (marks m n).length = n := by simp [marks]
theorem marks_succ (m n : Nat) : marks m (n + 1) = marks m n ++ [((m + n : Nat) : Int)] := by simp [marks, List.range_succ]
theorem marks_get (m n i : Nat) (h : i < (marks m n).length) : (marks m n)[i] = ((m + i : Nat) : Int) := by simp [marks]

theorem laws_markIntS_l0 (l : List Int) (m : Nat) (hl : l.length ≤ 1048576) (hm : m ≤ 1000000000) : ∀ d i : Nat, i + d = l.length → Ev (fun k => laws_markIntS.l0 k (marks m i ++ l.drop i) ((m + i : Nat) : Int) (i : Int)) (((m + l.length : Nat) : Int), marks m l.length) := by
  intro d
  induction d with
  | zero =>
    intro i hi
    obtain rfl : i = l.length := by omega
    refine Ev.step (f := fun _ => some (((m + l.length : Nat) : Int), marks m l.length)) (fun k => ?_) (Ev.now _)
    simp only [laws_markIntS.l0, List.drop_length, List.append_nil, marks_length]
    rw [if_neg (by omega)]
  | succ d ih =>
    intro i hi
    have hlt : i < l.length := by omega
    refine Ev.step (f := fun k => laws_markIntS.l0 k (marks m (i + 1) ++ l.drop (i + 1)) ((m + (i + 1) : Nat) : Int) ((i + 1 : Nat) : Int)) (fun k => ?_) (ih (i + 1) (by omega))
    have e : (marks m i ++ l.drop i).set i ((m + i : Nat) : Int) = marks m (i + 1) ++ l.drop (i + 1) := by
      rw [List.set_append_right _ _ (by rw [marks_length]; omega), marks_length, Nat.sub_self, List.drop_eq_getElem_cons hlt, List.set_cons_zero, marks_succ, List.append_assoc]
      rfl
    have hlen : (marks m i ++ l.drop i).length = l.length := by rw [List.length_append, marks_length, List.length_drop]; omega
    have e2 : wrap64 (((m + i : Nat) : Int) + 1) = ((m + (i + 1) : Nat) : Int) := by rw [wrap_id (by omega) (by omega)]; omega
    simp only [laws_markIntS.l0, hlen, Int.toNat_natCast, e, e2, wrap_succ i (by omega)]
    rw [if_pos (by omega), if_pos (by omega)]
theorem laws_markIntS_ev (l : List Int) (m : Nat) (hl : l.length ≤ 1048576) (hm : m ≤ 1000000000) : Ev (fun k => laws_markIntS.f k l (m : Int)) (((m + l.length : Nat) : Int), marks m l.length) := by
  have := laws_markIntS_l0 l m hl hm l.length 0 (by omega)
  simp only [marks, List.range_zero, List.map_nil, List.nil_append, List.drop_zero, Nat.add_zero] at this
  exact this

theorem laws_heldIntS_l0 (m n : Nat) (h : m + n ≤ 2000000000) : ∀ d i : Nat, i + d = n → Ev (fun k => laws_heldIntS.l0 k (marks m n) ((m + i : Nat) : Int) (i : Int)) ((m + n : Nat) : Int) := by
  intro d
  induction d with
  | zero =>
    intro i hi
    obtain rfl : i = n := by omega
    refine Ev.step (f := fun _ => some ((m + i : Nat) : Int)) (fun k => ?_) (Ev.now _)
    simp only [laws_heldIntS.l0, marks_length]
    rw [if_neg (by omega)]
  | succ d ih =>
    intro i hi
    refine Ev.step (f := fun k => laws_heldIntS.l0 k (marks m n) ((m + (i + 1) : Nat) : Int) ((i + 1 : Nat) : Int)) (fun k => ?_) (ih (i + 1) (by omega))
    have hlt : i < (marks m n).length := by rw [marks_length]; omega
    have e2 : wrap64 (((m + i : Nat) : Int) + 1) = ((m + (i + 1) : Nat) : Int) := by rw [wrap_id (by omega) (by omega)]; omega
    simp only [laws_heldIntS.l0, rd_nat _ i hlt, marks_get, marks_length, e2, wrap_succ i (by omega)]
    rw [if_pos (by omega), if_pos (by omega)]
    simp
theorem laws_heldIntS_ev (m n : Nat) (h : m + n ≤ 2000000000) : Ev (fun k => laws_heldIntS.f k (marks m n) (m : Int)) ((m + n : Nat) : Int) := laws_heldIntS_l0 m n h n 0 (by omega)

/-- All places numbered from a on. -/
def marksS : Nat → List (List Int) → List (List Int)
  | _, [] => []
  | a, r :: m => marks a r.length :: marksS (a + r.length) m
def tot : List (List Int) → Nat
  | [] => 0
  | r :: m => r.length + tot m
theorem marksS_length : ∀ (a : Nat) (m : List (List Int)), (marksS a m).length = m.length
  | _, [] => rfl
  | a, r :: m => by simp only [marksS, List.length_cons, marksS_length]
theorem tot_append : ∀ (l m : List (List Int)), tot (l ++ m) = tot l + tot m
  | [], m => by simp [tot]
  | r :: l, m => by simp only [List.cons_append, tot, tot_append l m]; omega
theorem tot_take (m : List (List Int)) (i : Nat) : tot (m.take i) ≤ tot m := by
  have := tot_append (m.take i) (m.drop i)
  rw [List.take_append_drop] at this; omega
theorem tot_succ (m : List (List Int)) (i : Nat) (h : i < m.length) : tot (m.take (i + 1)) = tot (m.take i) + m[i].length := by
  rw [List.take_succ_eq_append_getElem h, tot_append]
  simp [tot]
theorem marksS_append : ∀ (a : Nat) (l m : List (List Int)), marksS a (l ++ m) = marksS a l ++ marksS (a + tot l) m
  | a, [], m => by simp [marksS, tot]
  | a, r :: l, m => by simp only [List.cons_append, marksS, tot, marksS_append (a + r.length) l m, Nat.add_assoc]
theorem tot_marksS : ∀ (a : Nat) (m : List (List Int)), tot (marksS a m) = tot m
  | _, [] => rfl
  | a, r :: m => by simp only [marksS, tot, marks_length, tot_marksS]
theorem tot_le : ∀ {m : List (List Int)} {b : Nat}, (∀ r ∈ m, r.length ≤ b) → tot m ≤ m.length * b
  | [], _, _ => by simp [tot]
  | r :: m, b, h => by
    have h1 := h r List.mem_cons_self
    have h2 := tot_le (m := m) (fun x hx => h x (List.mem_cons_of_mem _ hx))
    simp only [tot, List.length_cons, Nat.succ_mul]; omega
theorem marksS_get : ∀ (a : Nat) (m : List (List Int)) (i : Nat) (h : i < m.length) (h' : i < (marksS a m).length), (marksS a m)[i] = marks (a + tot (m.take i)) m[i].length
  | a, r :: m, 0, _, _ => by simp [marksS, tot]
  | a, r :: m, i + 1, h, h' => by
    simp only [marksS, List.getElem_cons_succ, List.take_succ_cons, tot]
    rw [marksS_get (a + r.length) m i (by simpa using h)]
    rw [Nat.add_assoc]

theorem laws_heldIntSS_l0 (a : Nat) (m : List (List Int)) (h : a + tot m ≤ 2000000000) (hl : m.length ≤ 1048576) : ∀ d i : Nat, i + d = m.length → Ev (fun k => laws_heldIntSS.l0 k (marksS a m) ((a + tot (m.take i) : Nat) : Int) (i : Int)) ((a + tot m : Nat) : Int) := by
  intro d
  induction d with
  | zero =>
    intro i hi
    obtain rfl : i = m.length := by omega
    refine Ev.step (f := fun _ => some ((a + tot m : Nat) : Int)) (fun k => ?_) (Ev.now _)
    rw [laws_heldIntSS.l0.eq_2, marksS_length, if_neg (by omega), List.take_length]
  | succ d ih =>
    intro i hi
    have hlt : i < m.length := by omega
    have hlt2 : i < (marksS a m).length := by rw [marksS_length]; exact hlt
    have ht := tot_succ m i hlt
    have hb := tot_take m (i + 1)
    have E := laws_heldIntS_ev (a + tot (m.take i)) m[i].length (by omega)
    refine Ev.step (f := fun k => (laws_heldIntS.f k (marks (a + tot (m.take i)) m[i].length) ((a + tot (m.take i) : Nat) : Int)).bind fun t => if t < 0 then some (-1) else laws_heldIntSS.l0 k (marksS a m) t ((i + 1 : Nat) : Int)) (fun k => ?_)
      (Ev.bind (f := fun k t => if t < 0 then some (-1) else laws_heldIntSS.l0 k (marksS a m) t ((i + 1 : Nat) : Int)) E ?_)
    · rw [laws_heldIntSS.l0.eq_2, marksS_length, if_pos (by omega), if_pos (by omega), rdL_nat _ i hlt2, marksS_get a m i hlt, wrap_succ i (by omega)]
    · have e : a + tot (m.take i) + m[i].length = a + tot (m.take (i + 1)) := by omega
      simp only [e, if_neg (show ¬ ((a + tot (m.take (i + 1)) : Nat) : Int) < 0 by omega)]
      exact ih (i + 1) (by omega)
theorem laws_heldIntSS_ev (a : Nat) (m : List (List Int)) (h : a + tot m ≤ 2000000000) (hl : m.length ≤ 1048576) : ∃ K, laws_heldIntSS.f K (marksS a m) (a : Int) = some ((a + tot m : Nat) : Int) := by
  have := laws_heldIntSS_l0 a m h hl m.length 0 (by omega)
  exact this.rounds

theorem spec_l1In_eq (a b c : Int) : spec_l1In.f a b c = some (decide (b ≤ a ∧ a ≤ c)) := by
  unfold spec_l1In.f
  by_cases h : a ≥ b
  · rw [if_pos h]; congr 1; simp [show b ≤ a from h]
  · rw [if_neg h]; congr 1; simp; omega

/-- Are numbers of data and parity pieces as said? -/
def isC (a b : Int) : Bool := decide (1 ≤ a ∧ a ≤ 6) && decide (1 ≤ b ∧ b ≤ 4)
theorem isC_bd {a b : Int} (h : isC a b = true) : (1 ≤ a ∧ a ≤ 6) ∧ (1 ≤ b ∧ b ≤ 4) := by simpa [isC] using h

theorem spec_l3Size_eq (a b : Int) : spec_l3Size.f a b = some (isC a b) := by
  unfold spec_l3Size.f isC
  simp only [spec_l1In_eq, Option.bind_some]
  cases decide (1 ≤ a ∧ a ≤ 6) <;> rfl

/-- The first i rows of the unit matrix of n columns. -/
def idR (n i : Nat) : List Int := (List.replicate n (0 : Int)).set i 1
def idL (n i : Nat) : List (List Int) := (List.range i).map (idR n)
theorem idL_length (n i : Nat) : (idL n i).length = i := by simp [idL]
theorem idL_succ (n i : Nat) : idL n (i + 1) = idL n i ++ [idR n i] := by simp [idL, List.range_succ]
theorem idR_length (n i : Nat) : (idR n i).length = n := by simp [idR]
theorem idL_rows {n i : Nat} : ∀ r ∈ idL n i, r.length = n := fun r h => by
  obtain ⟨j, _, rfl⟩ := List.mem_map.1 h
  exact idR_length n j
def identV (a : Int) : List (List Int) × Bool := if 1 ≤ a ∧ a ≤ 8 then (idL a.toNat a.toNat, true) else ([], false)

theorem spec_l2Identity_l0 (n : Nat) (hn : n ≤ 1000) : ∀ d i : Nat, i + d = n → Ev (fun k => spec_l2Identity.l0 k (n : Int) (idL n i) (i : Int)) (idL n n) := by
  intro d
  induction d with
  | zero =>
    intro i hi
    obtain rfl : i = n := by omega
    exact Ev.step (f := fun _ => some (idL i i)) (fun k => by rw [spec_l2Identity.l0.eq_2, if_neg (by omega)]) (Ev.now _)
  | succ d ih =>
    intro i hi
    refine Ev.step (f := fun k => spec_l2Identity.l0 k (n : Int) (idL n (i + 1)) ((i + 1 : Nat) : Int)) (fun k => ?_) (ih (i + 1) (by omega))
    rw [spec_l2Identity.l0.eq_2, if_pos (by omega), if_pos (by omega), if_pos (by omega)]
    simp only [Option.bind_some, Int.toNat_natCast]
    rw [if_pos (by omega), if_pos (by rw [List.length_replicate]; omega), if_pos (by rw [idL_length]; omega), wrap_succ i (by omega), idL_succ]
    rfl
theorem spec_l2Identity_ev (n : Nat) (hn : n ≤ 1000) : Ev (fun k => spec_l2Identity.f k (n : Int)) (idL n n) := spec_l2Identity_l0 n hn n 0 (by omega)

theorem spec_l1Mul_l0 : ∀ (n a b o : Nat), a < 256 → o < 256 → b < 2 ^ n → b < 2 ^ 63 → Ev (fun k => spec_l1Mul.l0 k (a : Int) (b : Int) (o : Int)) ((Gf.gmA n a b o : Nat) : Int) := by
  have stop : ∀ a o : Nat, Ev (fun k => spec_l1Mul.l0 k (a : Int) ((0 : Nat) : Int) (o : Int)) ((o : Nat) : Int) := fun a o =>
    Ev.step (f := fun _ => some ((o : Nat) : Int)) (fun k => by simp only [spec_l1Mul.l0]; rw [if_neg (by omega)]) (Ev.now _)
  intro n
  induction n with
  | zero =>
    intro a b o ha ho hb _
    obtain rfl : b = 0 := by simpa using hb
    exact stop a o
  | succ n ih =>
    intro a b o ha ho hb hb63
    by_cases h0 : b = 0
    · subst h0
      rw [Gf.gmA_zero]
      exact stop a o
    · have e1 : wrap64 ((a : Int) * 2) = ((a * 2 : Nat) : Int) := by rw [wrap_id (by omega) (by omega)]; omega
      have e2 : Go.bits .xor .i64 ((a * 2 : Nat) : Int) 285 = (((a * 2) ^^^ 285 : Nat) : Int) := xor_nat (a := a * 2) (b := 285) (by omega) (by decide)
      have e3 : Go.bits .xor .i64 (o : Int) (a : Int) = ((o ^^^ a : Nat) : Int) := xor_nat (by omega) (by omega)
      have e4 := and_one (a := b) hb63
      refine Ev.step (f := fun k => spec_l1Mul.l0 k ((Gf.xt a : Nat) : Int) ((b / 2 : Nat) : Int) (((if b % 2 = 1 then o ^^^ a else o) : Nat) : Int)) (fun k => ?_) (ih _ _ _ (Gf.xt_lt a ha) ?_ (by rw [Nat.pow_succ] at hb; omega) (by omega))
      · simp only [spec_l1Mul.l0, e1, e2, e3, e4, half_nat, Gf.xt]
        rw [if_pos (show (b : Int) > 0 by omega)]
        by_cases h1 : b % 2 = 1 <;> by_cases h2 : 255 < a * 2
        · rw [if_pos (show ((b % 2 : Nat) : Int) = 1 by omega), if_pos h1, if_pos (by omega), if_pos h2]
        · rw [if_pos (show ((b % 2 : Nat) : Int) = 1 by omega), if_pos h1, if_neg (by omega), if_neg h2]
        · rw [if_neg (show ¬ ((b % 2 : Nat) : Int) = 1 by omega), if_neg h1, if_pos (by omega), if_pos h2]
        · rw [if_neg (show ¬ ((b % 2 : Nat) : Int) = 1 by omega), if_neg h1, if_neg (by omega), if_neg h2]
      · split
        · exact Gf.xor_byte ho ha
        · exact ho
theorem spec_l1Mul_ev (a b : Nat) (ha : a < 256) (hb : b < 256) : Ev (fun k => spec_l1Mul.f k (a : Int) (b : Int)) ((Gf.gm a b : Nat) : Int) :=
  spec_l1Mul_l0 8 a b 0 ha (by decide) hb (by omega)

theorem spec_l1Pow_l0 : ∀ (f a n o : Nat), a < 256 → o < 256 → n < 2 ^ f → n < 2 ^ 63 → Ev (fun k => spec_l1Pow.l0 k (a : Int) (n : Int) (o : Int)) ((Gf.pwA f a n o : Nat) : Int) := by
  have stop : ∀ a o : Nat, Ev (fun k => spec_l1Pow.l0 k (a : Int) ((0 : Nat) : Int) (o : Int)) ((o : Nat) : Int) := fun a o =>
    Ev.step (f := fun _ => some ((o : Nat) : Int)) (fun k => by simp only [spec_l1Pow.l0]; rw [if_neg (by omega)]) (Ev.now _)
  have z : ∀ f a o, Gf.pwA f a 0 o = o := by
    intro f
    induction f with
    | zero => intro a o; rfl
    | succ f ih => intro a o; exact ih _ _
  intro f
  induction f with
  | zero =>
    intro a n o ha ho hn _
    obtain rfl : n = 0 := by simpa using hn
    exact stop a o
  | succ f ih =>
    intro a n o ha ho hn hn63
    by_cases h0 : n = 0
    · subst h0
      rw [z]
      exact stop a o
    · have e4 := and_one (a := n) hn63
      have hsq := Gf.gm_lt a ha
      by_cases h1 : n % 2 = 1
      · refine Ev.step (f := fun k => (spec_l1Mul.f k (o : Int) (a : Int)).bind fun t => (spec_l1Mul.f k (a : Int) (a : Int)).bind fun u => spec_l1Pow.l0 k u ((n / 2 : Nat) : Int) t) (fun k => ?_) ?_
        · simp only [spec_l1Pow.l0, e4, half_nat]
          rw [if_pos (show (n : Int) > 0 by omega), if_pos (show ((n % 2 : Nat) : Int) = 1 by omega)]
        · have := ih (Gf.gm a a) (n / 2) (Gf.gm o a) hsq (Gf.gm_lt a ho) (by rw [Nat.pow_succ] at hn; omega) (by omega)
          show Ev _ ((Gf.pwA f (Gf.gm a a) (n / 2) (if n % 2 = 1 then Gf.gm o a else o) : Nat) : Int)
          rw [if_pos h1]
          exact Ev.bind (f := fun k t => (spec_l1Mul.f k (a : Int) (a : Int)).bind fun u => spec_l1Pow.l0 k u ((n / 2 : Nat) : Int) t) (spec_l1Mul_ev o a ho ha) (Ev.bind (f := fun k u => spec_l1Pow.l0 k u ((n / 2 : Nat) : Int) ((Gf.gm o a : Nat) : Int)) (spec_l1Mul_ev a a ha ha) this)
      · refine Ev.step (f := fun k => (spec_l1Mul.f k (a : Int) (a : Int)).bind fun u => spec_l1Pow.l0 k u ((n / 2 : Nat) : Int) (o : Int)) (fun k => ?_) ?_
        · simp only [spec_l1Pow.l0, e4, half_nat]
          rw [if_pos (show (n : Int) > 0 by omega), if_neg (show ¬ ((n % 2 : Nat) : Int) = 1 by omega)]
        · have := ih (Gf.gm a a) (n / 2) o hsq ho (by rw [Nat.pow_succ] at hn; omega) (by omega)
          show Ev _ ((Gf.pwA f (Gf.gm a a) (n / 2) (if n % 2 = 1 then Gf.gm o a else o) : Nat) : Int)
          rw [if_neg h1]
          exact Ev.bind (f := fun k u => spec_l1Pow.l0 k u ((n / 2 : Nat) : Int) (o : Int)) (spec_l1Mul_ev a a ha ha) this
theorem spec_l1Pow_ev (a n : Nat) (ha : a < 256) (hn : n < 2 ^ 62) : Ev (fun k => spec_l1Pow.f k (a : Int) (n : Int)) ((Gf.pw a n : Nat) : Int) := by
  have := spec_l1Pow_l0 62 a n 1 ha (by decide) hn (by omega)
  rw [Gf.pwA_eq 62 a n 1 ha (by decide) hn, Gf.one_gm _ (Gf.pw_lt n)] at this
  exact this

theorem spec_l1Div_ev (a b : Nat) (ha : a < 256) (hb : b < 256) : Ev (fun k => spec_l1Div.f k (a : Int) (b : Int)) ((Gf.gm a (Gf.gi b) : Nat) : Int) := by
  unfold spec_l1Div.f
  refine Ev.bind (f := fun k t => (spec_l1Mul.f k (a : Int) t).bind fun u => some u) (spec_l1Pow_ev b 254 hb (by decide)) ?_
  exact Ev.bind (f := fun _ u => some u) (spec_l1Mul_ev a (Gf.gi b) ha (Gf.gi_lt b)) (Ev.now _)

/-- Is a number an element? -/
def isB (a : Int) : Bool := decide (0 ≤ a ∧ a ≤ 255)
theorem isB_nat {a : Int} (h : isB a = true) : ∃ n : Nat, a = (n : Int) ∧ n < 256 := by
  simp only [isB, decide_eq_true_eq] at h
  exact ⟨a.toNat, by omega, by omega⟩
theorem isB_cast {n : Nat} (h : n < 256) : isB (n : Int) = true := by simp only [isB, decide_eq_true_eq]; omega

theorem rd_get (l : List Int) (i : Nat) (h : i < l.length) : rd l (i : Int) = l[i] := by
  unfold rd
  simp [List.getD_eq_getElem?_getD, List.getElem?_eq_getElem h]
theorem wrap_up (i : Nat) (h : i < 9223372036854775807) : wrap64 ((i : Int) + 1) = ((i + 1 : Nat) : Int) := by rw [wrap_id (by omega) (by omega)]; omega
theorem wrap_down (a : Nat) (h : a ≤ 9223372036854775807) : wrap64 ((a : Int) - 1) = (a : Int) - 1 := wrap_id (by omega) (by omega)
theorem allB_up {l : List Int} (h : l.all isB = true) : ∃ m : List Nat, l = Poly.up m ∧ Poly.AllB m := by
  refine Poly.up_of fun x hx => ?_
  have := List.all_eq_true.1 h x hx
  simpa [isB] using this
theorem up_allB {m : List Nat} (h : Poly.AllB m) : (Poly.up m).all isB = true := by
  rw [List.all_eq_true]
  intro x hx
  have := Poly.up_bytes h x hx
  simp only [isB, decide_eq_true_eq]; omega

theorem xor_up {a b : Nat} (ha : a < 256) (hb : b < 256) : Go.bits .xor .i64 (a : Int) (b : Int) = ((a ^^^ b : Nat) : Int) := xor_nat (by omega) (by omega)
theorem wrap_nat (n : Nat) (h : n ≤ 9223372036854775807) : wrap64 (n : Int) = (n : Int) := wrap_id (by omega) (by omega)
theorem wrap_add (a b : Nat) (h : a + b ≤ 9223372036854775807) : wrap64 ((a : Int) + (b : Int)) = ((a + b : Nat) : Int) := by rw [wrap_id (by omega) (by omega)]; omega
theorem wrap_pred (a : Nat) (h : a ≤ 9223372036854775807) (h0 : 0 < a) : wrap64 ((a : Int) - 1) = ((a - 1 : Nat) : Int) := by rw [wrap_id (by omega) (by omega)]; omega

/-- Lists of rows of natural numbers as Go's. -/
def upM (m : List (List Nat)) : List (List Int) := m.map Poly.up
def dnM (m : List (List Int)) : List (List Nat) := m.map fun r => r.map Int.toNat
theorem upM_length (m : List (List Nat)) : (upM m).length = m.length := by simp [upM]
theorem upM_snoc (m : List (List Nat)) (r : List Nat) : upM m ++ [Poly.up r] = upM (m ++ [r]) := by simp [upM]
theorem upM_append (l m : List (List Nat)) : upM l ++ upM m = upM (l ++ m) := by simp [upM]
theorem upM_set (m : List (List Nat)) (i : Nat) (r : List Nat) : (upM m).set i (Poly.up r) = upM (m.set i r) := by simp [upM, List.map_set]
theorem upM_nil : ([] : List (List Int)) = upM [] := rfl
theorem upM_getD (m : List (List Nat)) (i : Nat) : (upM m).getD i [] = Poly.up (m.getD i []) := by
  unfold upM
  rw [List.getD_eq_getElem?_getD, List.getElem?_map, List.getD_eq_getElem?_getD]
  cases m[i]? <;> rfl
theorem rdL_up (m : List (List Nat)) (i : Nat) : rd_L1 (upM m) (i : Int) = Poly.up (m.getD i []) := by
  unfold rd_L1
  rw [Int.toNat_natCast]
  exact upM_getD m i
theorem rdL_up0 (m : List (List Nat)) : rd_L1 (upM m) 0 = Poly.up (m.getD 0 []) := rdL_up m 0
theorem dn_up (l : List Nat) : (Poly.up l).map Int.toNat = l := by
  unfold Poly.up
  rw [List.map_map]
  exact (List.map_congr_left (fun x _ => Int.toNat_natCast x)).trans (List.map_id' l)
theorem dnM_upM (m : List (List Nat)) : dnM (upM m) = m := by
  unfold dnM upM
  rw [List.map_map]
  exact (List.map_congr_left (fun x _ => dn_up x)).trans (List.map_id' m)
theorem upM_inj {l m : List (List Nat)} (h : upM l = upM m) : l = m := by rw [← dnM_upM l, h, dnM_upM]
/-- Rows of c elements. -/
def areR (c : Nat) (m : List (List Int)) : Bool := m.all fun r => decide (r.length = c) && r.all isB
theorem areR_up {c : Nat} : ∀ {m : List (List Int)}, areR c m = true → ∃ n, m = upM n ∧ Mat.MB' c n
  | [], _ => ⟨[], rfl, fun r hr => by cases hr⟩
  | r :: m, h => by
    simp only [areR, List.all_cons, Bool.and_eq_true, decide_eq_true_eq] at h
    obtain ⟨n, rfl, hn⟩ := areR_up (m := m) (by simpa [areR] using h.2)
    obtain ⟨q, rfl, hq⟩ := allB_up h.1.2
    refine ⟨q :: n, rfl, fun x hx => ?_⟩
    rcases List.mem_cons.1 hx with rfl | hx
    · exact ⟨by simpa [Poly.up_length] using h.1.1, hq⟩
    · exact hn x hx
theorem up_areR {c : Nat} {n : List (List Nat)} (h : Mat.MB' c n) : areR c (upM n) = true := by
  unfold areR upM
  rw [List.all_eq_true]
  intro x hx
  obtain ⟨r, hr, rfl⟩ := List.mem_map.1 hx
  rw [Bool.and_eq_true, decide_eq_true_eq, Poly.up_length]
  exact ⟨(h r hr).1, up_allB (h r hr).2⟩
def goodM (m : List (List Int)) : Bool := decide (1 ≤ m.length ∧ m.length ≤ 8) && (decide (1 ≤ (m.getD 0 []).length ∧ (m.getD 0 []).length ≤ 8) && areR (m.getD 0 []).length m)
theorem goodM_up {m : List (List Int)} (h : goodM m = true) : ∃ c n, m = upM n ∧ Mat.MB' c n ∧ (m.getD 0 []).length = c ∧ m.length = n.length ∧ 1 ≤ n.length ∧ n.length ≤ 8 ∧ 1 ≤ c ∧ c ≤ 8 := by
  simp only [goodM, Bool.and_eq_true, decide_eq_true_eq] at h
  obtain ⟨n, hn, hB⟩ := areR_up h.2.2
  exact ⟨_, n, hn, hB, rfl, by rw [hn, upM_length], by rw [← upM_length, ← hn]; exact h.1.1, by rw [← upM_length, ← hn]; exact h.1.2, h.2.1.1, h.2.1.2⟩
theorem up_goodM {c : Nat} {n : List (List Nat)} (h : Mat.MB' c n) (h1 : 1 ≤ n.length) (h2 : n.length ≤ 8) (h3 : 1 ≤ c) (h4 : c ≤ 8) : goodM (upM n) = true := by
  have e : ((upM n).getD 0 []).length = c := by rw [upM_getD, Poly.up_length]; exact (h.get (by omega)).1
  unfold goodM
  rw [e, up_areR h, upM_length, decide_eq_true (by omega), decide_eq_true (by omega)]; rfl
theorem goodM_rows {m : List (List Int)} (h : goodM m = true) : m.length ≤ 8 ∧ ∀ r ∈ m, r.length ≤ 8 := by
  obtain ⟨c, n, rfl, hB, _, _, _, h2, _, h4⟩ := goodM_up h
  refine ⟨by rw [upM_length]; exact h2, fun r hr => ?_⟩
  obtain ⟨q, hq, rfl⟩ := List.mem_map.1 hr
  rw [Poly.up_length, (hB q hq).1]; exact h4
theorem upM_small {c k : Nat} {n : List (List Nat)} (h : Mat.MB' c n) (hl : n.length ≤ k) (hc : c ≤ k) : (upM n).length ≤ k ∧ ∀ r ∈ upM n, r.length ≤ k := by
  refine ⟨by rw [upM_length]; exact hl, fun r hr => ?_⟩
  obtain ⟨q, hq, rfl⟩ := List.mem_map.1 hr
  rw [Poly.up_length, (h q hq).1]; exact hc

/-- The inverses of the sums. -/
def cauchyR (a : Nat) (Y : List Nat) : List Nat := Y.map fun b => Gf.gi (a ^^^ b)
def cauchyM (X Y : List Nat) : List (List Nat) := X.map fun a => cauchyR a Y
theorem cauchyR_bytes (a : Nat) (Y : List Nat) : Poly.AllB (cauchyR a Y) := fun x hx => by
  obtain ⟨b, _, rfl⟩ := List.mem_map.1 hx
  exact Gf.gi_lt _
theorem cauchyM_MB (X Y : List Nat) : Mat.MB' Y.length (cauchyM X Y) := fun r hr => by
  obtain ⟨a, _, rfl⟩ := List.mem_map.1 hr
  exact ⟨by simp [cauchyR], cauchyR_bytes a Y⟩
theorem cauchyM_length (X Y : List Nat) : (cauchyM X Y).length = X.length := by simp [cauchyM]
theorem drop_getD (l : List Nat) (i : Nat) (h : i < l.length) : l.drop i = l.getD i 0 :: l.drop (i + 1) := by
  rw [List.drop_eq_getElem_cons h, List.getD_eq_getElem?_getD, List.getElem?_eq_getElem h]; rfl

theorem spec_l2Cauchy_l0 (X Y : List Nat) (hX : Poly.AllB X) (hY : Poly.AllB Y) (hXl : X.length ≤ 1000) (hYl : Y.length ≤ 1000) : ∀ (d i : Nat) (out : List (List Nat)), i + d = X.length → out.length = i →
    Ev (fun k => spec_l2Cauchy.l0 k (Poly.up Y) (upM out) (Poly.up X) (X.length : Int) (i : Int)) (upM (out ++ cauchyM (X.drop i) Y)) := by
  intro d
  induction d with
  | zero =>
    intro i out hi hol
    obtain rfl : i = X.length := by omega
    have e : out ++ cauchyM (X.drop X.length) Y = out := by rw [List.drop_length]; simp [cauchyM]
    rw [e]
    exact Ev.step (f := fun _ => some (upM out)) (fun k => by rw [spec_l2Cauchy.l0.eq_2, if_neg (by omega)]) (Ev.now _)
  | succ d ih =>
    intro i out hi hol
    have hlt : i < X.length := by omega
    have ha : X.getD i 0 < 256 := hX.get i
    rw [drop_getD X i hlt]
    generalize hA : X.getD i 0 = a at ha
    have row : ∀ (e j : Nat) (acc : List Nat), j + e = Y.length → acc.length = j →
        Ev (fun k => spec_l2Cauchy.l1 k (Poly.up Y) (upM out) (a : Int) (Poly.up acc) (Poly.up X) (X.length : Int) (i : Int) (Poly.up Y) (Y.length : Int) (j : Int)) (upM (out ++ (acc ++ cauchyR a (Y.drop j)) :: cauchyM (X.drop (i + 1)) Y)) := by
      intro e
      induction e with
      | zero =>
        intro j acc hj hl
        obtain rfl : j = Y.length := by omega
        have e : acc ++ cauchyR a (Y.drop Y.length) = acc := by rw [List.drop_length]; simp [cauchyR]
        rw [e]
        refine Ev.step (f := fun k => spec_l2Cauchy.l0 k (Poly.up Y) (upM (out ++ [acc])) (Poly.up X) (X.length : Int) ((i + 1 : Nat) : Int)) (fun k => ?_) ?_
        · rw [spec_l2Cauchy.l1.eq_2, if_neg (by omega), if_pos (by rw [upM_length]; omega), upM_snoc, wrap_succ i (by omega)]
        · have := ih (i + 1) (out ++ [acc]) (by omega) (by simp [hol])
          rwa [List.append_assoc] at this
      | succ e ihe =>
        intro j acc hj hl
        have hjY : j < Y.length := by omega
        have hb : Y.getD j 0 < 256 := hY.get j
        have hx := xor_up ha hb
        have hab := Gf.xor_byte ha hb
        have e1 : cauchyR a (Y.drop j) = Gf.gi (a ^^^ Y.getD j 0) :: cauchyR a (Y.drop (j + 1)) := by rw [drop_getD Y j hjY]; rfl
        have e2 : Gf.gm 1 (Gf.gi (a ^^^ Y.getD j 0)) = Gf.gi (a ^^^ Y.getD j 0) := Gf.one_gm _ (Gf.gi_lt _)
        rw [e1]
        refine Ev.step (f := fun k => (spec_l1Div.f k ((1 : Nat) : Int) ((a ^^^ Y.getD j 0 : Nat) : Int)).bind fun t => if (Poly.up acc).length < 17592186044416 then spec_l2Cauchy.l1 k (Poly.up Y) (upM out) (a : Int) (Poly.up acc ++ [t]) (Poly.up X) (X.length : Int) (i : Int) (Poly.up Y) (Y.length : Int) ((j + 1 : Nat) : Int) else none) (fun k => ?_) ?_
        · rw [spec_l2Cauchy.l1.eq_2, if_pos (by omega), if_pos (by omega), if_pos (by rw [Poly.up_length]; omega), Poly.rd_up, hx, wrap_succ j (by omega)]; rfl
        · refine Ev.bind (f := fun k t => if (Poly.up acc).length < 17592186044416 then spec_l2Cauchy.l1 k (Poly.up Y) (upM out) (a : Int) (Poly.up acc ++ [t]) (Poly.up X) (X.length : Int) (i : Int) (Poly.up Y) (Y.length : Int) ((j + 1 : Nat) : Int) else none) (spec_l1Div_ev 1 _ (by decide) hab) ?_
          simp only [if_pos (show (Poly.up acc).length < 17592186044416 by rw [Poly.up_length]; omega), e2, Poly.up_snoc]
          have := ihe (j + 1) (acc ++ [Gf.gi (a ^^^ Y.getD j 0)]) (by omega) (by simp [hl])
          rwa [List.append_assoc] at this
    have e0 : out ++ cauchyM (a :: X.drop (i + 1)) Y = out ++ ([] ++ cauchyR a (Y.drop 0)) :: cauchyM (X.drop (i + 1)) Y := by rfl
    rw [e0]
    refine Ev.step (f := fun k => spec_l2Cauchy.l1 k (Poly.up Y) (upM out) (a : Int) (Poly.up []) (Poly.up X) (X.length : Int) (i : Int) (Poly.up Y) (Y.length : Int) 0) (fun k => ?_) (row Y.length 0 [] (by omega) rfl)
    rw [spec_l2Cauchy.l0.eq_2, if_pos (by omega), if_pos (by omega), if_pos (by rw [Poly.up_length]; omega), Poly.rd_up, hA, Poly.up_length]; rfl
theorem spec_l2Cauchy_ev (X Y : List Nat) (hX : Poly.AllB X) (hY : Poly.AllB Y) (hXl : X.length ≤ 1000) (hYl : Y.length ≤ 1000) : Ev (fun k => spec_l2Cauchy.f k (Poly.up X) (Poly.up Y)) (upM (cauchyM X Y)) := by
  unfold spec_l2Cauchy.f
  rw [Poly.up_length]
  exact spec_l2Cauchy_l0 X Y hX hY hXl hYl X.length 0 [] (by omega) rfl

theorem idL_up (n : Nat) : idL n n = upM (Mat.idM n) := by
  unfold idL idR upM Mat.idM
  rw [List.map_map]
  refine List.map_congr_left fun i _ => ?_
  show _ = Poly.up ((List.replicate n 0).set i 1)
  rw [← Poly.up_set, ← Poly.up_zeros]; rfl

/-- The matrix of a code. -/
def rangeN (a n : Nat) : List Nat := (List.range n).map fun i => a + i
theorem rangeN_length (a n : Nat) : (rangeN a n).length = n := by simp [rangeN]
theorem rangeN_succ (a n : Nat) : rangeN a (n + 1) = rangeN a n ++ [a + n] := by simp [rangeN, List.range_succ]
theorem rangeN_bytes {a n : Nat} (h : a + n ≤ 256) : Poly.AllB (rangeN a n) := fun x hx => by
  obtain ⟨i, hi, rfl⟩ := List.mem_map.1 hx
  have := List.mem_range.1 hi
  omega
theorem rangeN_getD {a n i : Nat} (h : i < n) : (rangeN a n).getD i 0 = a + i := by
  unfold rangeN
  rw [List.getD_eq_getElem?_getD, List.getElem?_map, List.getElem?_range h]; rfl
def codeM (d p : Nat) : List (List Nat) := Mat.idM d ++ cauchyM (rangeN 0 p) (rangeN p d)
theorem codeM_MB (d p : Nat) : Mat.MB' d (codeM d p) := fun r hr => by
  rcases List.mem_append.1 hr with h | h
  · exact Mat.idM_MB d r h
  · have := cauchyM_MB (rangeN 0 p) (rangeN p d) r h
    rwa [rangeN_length] at this
theorem codeM_length (d p : Nat) : (codeM d p).length = d + p := by unfold codeM; rw [List.length_append, Mat.idM_length, cauchyM_length, rangeN_length]
def codeV (a b : Int) : List (List Int) × Bool := if isC a b then (upM (codeM a.toNat b.toNat), true) else ([], false)
theorem codeV_small (a b : Int) : (codeV a b).1.length ≤ 10 ∧ ∀ r ∈ (codeV a b).1, r.length ≤ 10 := by
  unfold codeV
  split
  · rename_i h
    have := isC_bd h
    exact upM_small (codeM_MB _ _) (by rw [codeM_length]; omega) (by omega)
  · exact ⟨by simp, fun r hr => by cases hr⟩

theorem spec_l3Matrix_l1 (d p : Nat) (hd : d ≤ 20) (hp : p ≤ 20) : ∀ (u j : Nat), j + u = d → Ev (fun k => spec_l3Matrix.l1 k (d : Int) (p : Int) (Poly.up (rangeN 0 p)) (Poly.up (rangeN p j)) (j : Int)) (upM (codeM d p)) := by
  intro u
  induction u with
  | zero =>
    intro j hj
    obtain rfl : j = d := by omega
    have E := spec_l2Identity_ev j (by omega)
    have E2 := spec_l2Cauchy_ev (rangeN 0 p) (rangeN p j) (rangeN_bytes (by omega)) (rangeN_bytes (by omega)) (by rw [rangeN_length]; omega) (by rw [rangeN_length]; omega)
    rw [idL_up] at E
    refine Ev.step (f := fun k => (spec_l2Identity.f k (j : Int)).bind fun s => (spec_l2Cauchy.f k (Poly.up (rangeN 0 p)) (Poly.up (rangeN p j))).bind fun t => if s.length + t.length < 5864062014805 then some (s ++ t) else none) (fun k => ?_) ?_
    · rw [spec_l3Matrix.l1.eq_2, if_neg (by omega)]
    · refine Ev.bind (f := fun k s => (spec_l2Cauchy.f k (Poly.up (rangeN 0 p)) (Poly.up (rangeN p j))).bind fun t => if s.length + t.length < 5864062014805 then some (s ++ t) else none) E (Ev.bind (f := fun _ t => if (upM (Mat.idM j)).length + t.length < 5864062014805 then some (upM (Mat.idM j) ++ t) else none) E2 ?_)
      simp only [upM_length, Mat.idM_length, cauchyM_length, rangeN_length, if_pos (show j + p < 5864062014805 by omega), upM_append]
      exact Ev.now _
  | succ u ih =>
    intro j hj
    refine Ev.step (f := fun k => spec_l3Matrix.l1 k (d : Int) (p : Int) (Poly.up (rangeN 0 p)) (Poly.up (rangeN p (j + 1))) ((j + 1 : Nat) : Int)) (fun k => ?_) (ih (j + 1) (by omega))
    rw [spec_l3Matrix.l1.eq_2, if_pos (by omega), if_pos (by rw [Poly.up_length, rangeN_length]; omega), wrap_add p j (by omega), Poly.up_snoc, ← rangeN_succ, wrap_succ j (by omega)]
theorem spec_l3Matrix_l0 (d p : Nat) (hd : d ≤ 20) (hp : p ≤ 20) : ∀ (u j : Nat), j + u = p → Ev (fun k => spec_l3Matrix.l0 k (d : Int) (p : Int) (Poly.up (rangeN 0 j)) (j : Int)) (upM (codeM d p)) := by
  intro u
  induction u with
  | zero =>
    intro j hj
    obtain rfl : j = p := by omega
    refine Ev.step (f := fun k => spec_l3Matrix.l1 k (d : Int) (j : Int) (Poly.up (rangeN 0 j)) (Poly.up (rangeN j 0)) ((0 : Nat) : Int)) (fun k => ?_) (spec_l3Matrix_l1 d j hd hp d 0 (by omega))
    rw [spec_l3Matrix.l0.eq_2, if_neg (by omega)]; rfl
  | succ u ih =>
    intro j hj
    refine Ev.step (f := fun k => spec_l3Matrix.l0 k (d : Int) (p : Int) (Poly.up (rangeN 0 (j + 1))) ((j + 1 : Nat) : Int)) (fun k => ?_) (ih (j + 1) (by omega))
    have e : Poly.up (rangeN 0 j) ++ [(j : Int)] = Poly.up (rangeN 0 (j + 1)) := by rw [rangeN_succ, Poly.up_snoc, Nat.zero_add]
    rw [spec_l3Matrix.l0.eq_2, if_pos (by omega), if_pos (by rw [Poly.up_length, rangeN_length]; omega), e, wrap_succ j (by omega)]
theorem spec_l3Matrix_ev (d p : Nat) (hd : d ≤ 20) (hp : p ≤ 20) : Ev (fun k => spec_l3Matrix.f k (d : Int) (p : Int)) (upM (codeM d p)) := spec_l3Matrix_l0 d p hd hp p 0 (by omega)

theorem spec_CodeMatrix_ev (a b : Int) : Ev (fun k => spec_CodeMatrix.f k a b) (codeV a b) := by
  unfold spec_CodeMatrix.f codeV
  simp only [spec_l3Size_eq, Option.bind_some]
  cases h : isC a b
  · exact Ev.now _
  · simp only [if_true]
    have hb := isC_bd h
    obtain ⟨d, rfl⟩ := nat_of (a := a) (by omega)
    obtain ⟨p, rfl⟩ := nat_of (a := b) (by omega)
    exact Ev.bind (f := fun _ t => some (t, true)) (spec_l3Matrix_ev d p (by omega) (by omega)) (Ev.now _)

theorem impl_isCode_eq (a b : Int) : impl_isCode.f a b = some (isC a b) := by
  unfold impl_isCode.f isC
  simp only [impl_within_eq, Option.bind_some]
  cases decide (1 ≤ a ∧ a ≤ 6) <;> rfl

theorem impl_identity_l0 (n : Nat) (hn : n ≤ 1000) : ∀ d i : Nat, i + d = n → Ev (fun k => impl_identity.l0 k (n : Int) (idL n i) (n : Int) (i : Int)) (idL n n) := by
  intro d
  induction d with
  | zero =>
    intro i hi
    obtain rfl : i = n := by omega
    exact Ev.step (f := fun _ => some (idL i i)) (fun k => by rw [impl_identity.l0.eq_2, if_neg (by omega)]) (Ev.now _)
  | succ d ih =>
    intro i hi
    refine Ev.step (f := fun k => impl_identity.l0 k (n : Int) (idL n (i + 1)) (n : Int) ((i + 1 : Nat) : Int)) (fun k => ?_) (ih (i + 1) (by omega))
    rw [impl_identity.l0.eq_2, if_pos (by omega), if_pos (by omega), if_pos (by omega)]
    simp only [Option.bind_some, Int.toNat_natCast]
    rw [if_pos (by omega), if_pos (by rw [List.length_replicate]; omega), if_pos (by rw [idL_length]; omega), wrap_succ i (by omega), idL_succ]
    rfl
theorem impl_identity_ev (n : Nat) (hn : n ≤ 1000) : Ev (fun k => impl_identity.f k (n : Int)) (idL n n) := impl_identity_l0 n hn n 0 (by omega)

theorem impl_mul_l0 : ∀ (n a b o : Nat), a < 256 → o < 256 → b < 2 ^ n → b < 2 ^ 63 → Ev (fun k => impl_mul.l0 k (a : Int) (b : Int) (o : Int)) ((Gf.gmA n a b o : Nat) : Int) := by
  have stop : ∀ a o : Nat, Ev (fun k => impl_mul.l0 k (a : Int) ((0 : Nat) : Int) (o : Int)) ((o : Nat) : Int) := fun a o =>
    Ev.step (f := fun _ => some ((o : Nat) : Int)) (fun k => by simp only [impl_mul.l0]; rw [if_neg (by omega)]) (Ev.now _)
  intro n
  induction n with
  | zero =>
    intro a b o ha ho hb _
    obtain rfl : b = 0 := by simpa using hb
    exact stop a o
  | succ n ih =>
    intro a b o ha ho hb hb63
    by_cases h0 : b = 0
    · subst h0
      rw [Gf.gmA_zero]
      exact stop a o
    · have e1 : wrap64 ((a : Int) * 2) = ((a * 2 : Nat) : Int) := by rw [wrap_id (by omega) (by omega)]; omega
      have e2 : Go.bits .xor .i64 ((a * 2 : Nat) : Int) 285 = (((a * 2) ^^^ 285 : Nat) : Int) := xor_nat (a := a * 2) (b := 285) (by omega) (by decide)
      have e3 : Go.bits .xor .i64 (o : Int) (a : Int) = ((o ^^^ a : Nat) : Int) := xor_nat (by omega) (by omega)
      have e4 := and_one (a := b) hb63
      refine Ev.step (f := fun k => impl_mul.l0 k ((Gf.xt a : Nat) : Int) ((b / 2 : Nat) : Int) (((if b % 2 = 1 then o ^^^ a else o) : Nat) : Int)) (fun k => ?_) (ih _ _ _ (Gf.xt_lt a ha) ?_ (by rw [Nat.pow_succ] at hb; omega) (by omega))
      · simp only [impl_mul.l0, e1, e2, e3, e4, half_nat, Gf.xt]
        rw [if_pos (show (b : Int) > 0 by omega)]
        by_cases h1 : b % 2 = 1 <;> by_cases h2 : 255 < a * 2
        · rw [if_pos (show ((b % 2 : Nat) : Int) = 1 by omega), if_pos h1, if_pos (by omega), if_pos h2]
        · rw [if_pos (show ((b % 2 : Nat) : Int) = 1 by omega), if_pos h1, if_neg (by omega), if_neg h2]
        · rw [if_neg (show ¬ ((b % 2 : Nat) : Int) = 1 by omega), if_neg h1, if_pos (by omega), if_pos h2]
        · rw [if_neg (show ¬ ((b % 2 : Nat) : Int) = 1 by omega), if_neg h1, if_neg (by omega), if_neg h2]
      · split
        · exact Gf.xor_byte ho ha
        · exact ho
theorem impl_mul_ev (a b : Nat) (ha : a < 256) (hb : b < 256) : Ev (fun k => impl_mul.f k (a : Int) (b : Int)) ((Gf.gm a b : Nat) : Int) :=
  impl_mul_l0 8 a b 0 ha (by decide) hb (by omega)

theorem impl_pow_l0 : ∀ (f a n o : Nat), a < 256 → o < 256 → n < 2 ^ f → n < 2 ^ 63 → Ev (fun k => impl_pow.l0 k (a : Int) (n : Int) (o : Int)) ((Gf.pwA f a n o : Nat) : Int) := by
  have stop : ∀ a o : Nat, Ev (fun k => impl_pow.l0 k (a : Int) ((0 : Nat) : Int) (o : Int)) ((o : Nat) : Int) := fun a o =>
    Ev.step (f := fun _ => some ((o : Nat) : Int)) (fun k => by simp only [impl_pow.l0]; rw [if_neg (by omega)]) (Ev.now _)
  have z : ∀ f a o, Gf.pwA f a 0 o = o := by
    intro f
    induction f with
    | zero => intro a o; rfl
    | succ f ih => intro a o; exact ih _ _
  intro f
  induction f with
  | zero =>
    intro a n o ha ho hn _
    obtain rfl : n = 0 := by simpa using hn
    exact stop a o
  | succ f ih =>
    intro a n o ha ho hn hn63
    by_cases h0 : n = 0
    · subst h0
      rw [z]
      exact stop a o
    · have e4 := and_one (a := n) hn63
      have hsq := Gf.gm_lt a ha
      by_cases h1 : n % 2 = 1
      · refine Ev.step (f := fun k => (impl_mul.f k (o : Int) (a : Int)).bind fun t => (impl_mul.f k (a : Int) (a : Int)).bind fun u => impl_pow.l0 k u ((n / 2 : Nat) : Int) t) (fun k => ?_) ?_
        · simp only [impl_pow.l0, e4, half_nat]
          rw [if_pos (show (n : Int) > 0 by omega), if_pos (show ((n % 2 : Nat) : Int) = 1 by omega)]
        · have := ih (Gf.gm a a) (n / 2) (Gf.gm o a) hsq (Gf.gm_lt a ho) (by rw [Nat.pow_succ] at hn; omega) (by omega)
          show Ev _ ((Gf.pwA f (Gf.gm a a) (n / 2) (if n % 2 = 1 then Gf.gm o a else o) : Nat) : Int)
          rw [if_pos h1]
          exact Ev.bind (f := fun k t => (impl_mul.f k (a : Int) (a : Int)).bind fun u => impl_pow.l0 k u ((n / 2 : Nat) : Int) t) (impl_mul_ev o a ho ha) (Ev.bind (f := fun k u => impl_pow.l0 k u ((n / 2 : Nat) : Int) ((Gf.gm o a : Nat) : Int)) (impl_mul_ev a a ha ha) this)
      · refine Ev.step (f := fun k => (impl_mul.f k (a : Int) (a : Int)).bind fun u => impl_pow.l0 k u ((n / 2 : Nat) : Int) (o : Int)) (fun k => ?_) ?_
        · simp only [impl_pow.l0, e4, half_nat]
          rw [if_pos (show (n : Int) > 0 by omega), if_neg (show ¬ ((n % 2 : Nat) : Int) = 1 by omega)]
        · have := ih (Gf.gm a a) (n / 2) o hsq ho (by rw [Nat.pow_succ] at hn; omega) (by omega)
          show Ev _ ((Gf.pwA f (Gf.gm a a) (n / 2) (if n % 2 = 1 then Gf.gm o a else o) : Nat) : Int)
          rw [if_neg h1]
          exact Ev.bind (f := fun k u => impl_pow.l0 k u ((n / 2 : Nat) : Int) (o : Int)) (impl_mul_ev a a ha ha) this
theorem impl_pow_ev (a n : Nat) (ha : a < 256) (hn : n < 2 ^ 62) : Ev (fun k => impl_pow.f k (a : Int) (n : Int)) ((Gf.pw a n : Nat) : Int) := by
  have := impl_pow_l0 62 a n 1 ha (by decide) hn (by omega)
  rw [Gf.pwA_eq 62 a n 1 ha (by decide) hn, Gf.one_gm _ (Gf.pw_lt n)] at this
  exact this

theorem impl_inverse_ev (b : Nat) (hb : b < 256) : Ev (fun k => impl_inverse.f k (b : Int)) ((Gf.gi b : Nat) : Int) := by
  unfold impl_inverse.f
  exact Ev.bind (f := fun _ u => some u) (impl_pow_ev b 254 hb (by decide)) (Ev.now _)

theorem impl_codeMatrix_l0 (d p : Nat) (hd : d ≤ 20) (hp : p ≤ 20) : ∀ (u i : Nat), i + u = p → Ev (fun k => impl_codeMatrix.l0 k (d : Int) (p : Int) (upM (Mat.idM d ++ cauchyM (rangeN 0 i) (rangeN p d))) (p : Int) (i : Int)) (upM (codeM d p)) := by
  intro u
  induction u with
  | zero =>
    intro i hi
    obtain rfl : i = p := by omega
    exact Ev.step (f := fun _ => some (upM (codeM d i))) (fun k => by rw [impl_codeMatrix.l0.eq_2, if_neg (by omega)]; rfl) (Ev.now _)
  | succ u ih =>
    intro i hi
    have row : ∀ (e j : Nat), j + e = d →
        Ev (fun k => impl_codeMatrix.l1 k (d : Int) (p : Int) (upM (Mat.idM d ++ cauchyM (rangeN 0 i) (rangeN p d))) (i : Int) (Poly.up (cauchyR i (rangeN p j))) (p : Int) (i : Int) (d : Int) (j : Int)) (upM (codeM d p)) := by
      intro e
      induction e with
      | zero =>
        intro j hj
        obtain rfl : j = d := by omega
        refine Ev.step (f := fun k => impl_codeMatrix.l0 k (j : Int) (p : Int) (upM (Mat.idM j ++ cauchyM (rangeN 0 (i + 1)) (rangeN p j))) (p : Int) ((i + 1 : Nat) : Int)) (fun k => ?_) (ih (i + 1) (by omega))
        have e1 : cauchyM (rangeN 0 i) (rangeN p j) ++ [cauchyR i (rangeN p j)] = cauchyM (rangeN 0 (i + 1)) (rangeN p j) := by
          unfold cauchyM
          rw [rangeN_succ, List.map_append, Nat.zero_add]; rfl
        rw [impl_codeMatrix.l1.eq_2, if_neg (by omega), if_pos (by rw [upM_length, List.length_append, Mat.idM_length, cauchyM_length, rangeN_length]; omega), upM_snoc, List.append_assoc, e1, wrap_succ i (by omega)]
      | succ e ihe =>
        intro j hj
        have hx := xor_up (a := i) (b := p + j) (by omega) (by omega)
        have hab := Gf.xor_byte (a := i) (b := p + j) (by omega) (by omega)
        have e1 : cauchyR i (rangeN p j) ++ [Gf.gi (i ^^^ (p + j))] = cauchyR i (rangeN p (j + 1)) := by
          unfold cauchyR
          rw [rangeN_succ, List.map_append]; rfl
        have hl : (Poly.up (cauchyR i (rangeN p j))).length < 17592186044416 := by rw [Poly.up_length]; simp only [cauchyR, List.length_map, rangeN_length]; omega
        refine Ev.step (f := fun k => (impl_inverse.f k ((i ^^^ (p + j) : Nat) : Int)).bind fun t => if (Poly.up (cauchyR i (rangeN p j))).length < 17592186044416 then impl_codeMatrix.l1 k (d : Int) (p : Int) (upM (Mat.idM d ++ cauchyM (rangeN 0 i) (rangeN p d))) (i : Int) (Poly.up (cauchyR i (rangeN p j)) ++ [t]) (p : Int) (i : Int) (d : Int) ((j + 1 : Nat) : Int) else none) (fun k => ?_) ?_
        · rw [impl_codeMatrix.l1.eq_2, if_pos (by omega), wrap_add p j (by omega), hx, wrap_succ j (by omega)]
        · refine Ev.bind (f := fun k t => if (Poly.up (cauchyR i (rangeN p j))).length < 17592186044416 then impl_codeMatrix.l1 k (d : Int) (p : Int) (upM (Mat.idM d ++ cauchyM (rangeN 0 i) (rangeN p d))) (i : Int) (Poly.up (cauchyR i (rangeN p j)) ++ [t]) (p : Int) (i : Int) (d : Int) ((j + 1 : Nat) : Int) else none) (impl_inverse_ev _ hab) ?_
          simp only [if_pos hl, Poly.up_snoc, e1]
          exact ihe (j + 1) (by omega)
    refine Ev.step (f := fun k => impl_codeMatrix.l1 k (d : Int) (p : Int) (upM (Mat.idM d ++ cauchyM (rangeN 0 i) (rangeN p d))) (i : Int) (Poly.up (cauchyR i (rangeN p 0))) (p : Int) (i : Int) (d : Int) ((0 : Nat) : Int)) (fun k => ?_) (row d 0 (by omega))
    rw [impl_codeMatrix.l0.eq_2, if_pos (by omega)]; rfl
theorem impl_codeMatrix_ev (d p : Nat) (hd : d ≤ 20) (hp : p ≤ 20) : Ev (fun k => impl_codeMatrix.f k (d : Int) (p : Int)) (upM (codeM d p)) := by
  unfold impl_codeMatrix.f
  have E := impl_identity_ev d (by omega)
  rw [idL_up] at E
  refine Ev.bind (f := fun k t => impl_codeMatrix.l0 k (d : Int) (p : Int) t (p : Int) 0) E ?_
  have := impl_codeMatrix_l0 d p hd hp p 0 (by omega)
  have e : Mat.idM d ++ cauchyM (rangeN 0 0) (rangeN p d) = Mat.idM d := by simp [rangeN, cauchyM]
  rw [e] at this
  exact this

theorem impl_CodeMatrix_ev (a b : Int) : Ev (fun k => impl_CodeMatrix.f k a b) (codeV a b) := by
  unfold impl_CodeMatrix.f codeV
  simp only [impl_isCode_eq, Option.bind_some]
  cases h : isC a b
  · exact Ev.now _
  · simp only [if_true]
    have hb := isC_bd h
    obtain ⟨d, rfl⟩ := nat_of (a := a) (by omega)
    obtain ⟨p, rfl⟩ := nat_of (a := b) (by omega)
    exact Ev.bind (f := fun _ t => some (t, true)) (impl_codeMatrix_ev d p (by omega) (by omega)) (Ev.now _)

theorem rows_len {w : World} {A : Option Addr} {n : Nat} {E : TypeId} {xs : List (List Int)} (h : Kd.C (Kd.slice E (Kd.int .i64)) w A n xs) : xs.length ≤ 9223372036854775807 ∧ ∀ r ∈ xs, r.length ≤ 9223372036854775807 := by
  have hn := h.1
  have hm := h.2.1
  refine ⟨by omega, fun r hr => ?_⟩
  obtain ⟨i, hi, rfl⟩ := List.getElem_of_mem hr
  obtain ⟨_, _, _, _, _, _, hC⟩ := Mx.rows_at h i (by omega) hi
  have := hC.2.1
  have := hC.1
  omega
theorem small_rows {m : List (List Int)} (h : m.length + tot m ≤ 1048576) : m.length ≤ 1048576 ∧ (∀ r ∈ m, r.length ≤ 1048576) ∧ tot m ≤ 1048576 := by
  have ht : ∀ (l : List (List Int)), ∀ r ∈ l, r.length ≤ tot l := by
    intro l
    induction l with
    | nil => intro r hr; cases hr
    | cons x l ih =>
      intro r hr
      rcases List.mem_cons.1 hr with rfl | hr
      · simp only [tot]; omega
      · have := ih r hr; simp only [tot]; omega
  exact ⟨by omega, fun r hr => by have := ht m r hr; omega, by omega⟩
theorem le_small {m : List (List Int)} {k : Nat} (h : m.length ≤ k ∧ ∀ r ∈ m, r.length ≤ k) (hk : k ≤ 1000 := by decide) : m.length ≤ 1000 ∧ ∀ r ∈ m, r.length ≤ 1000 := ⟨by omega, fun r hr => by have := h.2 r hr; omega⟩

theorem eqSS_e {w0 w : World} {L : List (Value × Env.It)} (E : Env.Env 34 3 w0 w L) (i j : Nat) {A1 A2 : Option Addr} {c1 c2 : Nat} {it1 it2 : Env.It} {m : List (List Int)} (hi : L[i]? = some (.slice A1 m.length c1, it1)) (hj : L[j]? = some (.slice A2 m.length c2, it2)) (hm1 : it1.rows = some m) (hm2 : it2.rows = some m) (hl : m.length ≤ 1048576) (hr : ∀ r ∈ m, r.length ≤ 1048576) :
    Calls Try.prog 54 #[.slice A1 m.length c1, .slice A2 m.length c2] w fun e w' => e = .returned (.bool true) ∧ Env.Env 34 3 w0 w' L := by
  obtain ⟨K, hK⟩ := laws_eqIntSS_same m hl hr
  have h1 := E.Cq (by decide) i hi hm1
  have h2 := E.Cq (by decide) j hj hm2
  exact (laws_eqIntSS.calls K A1 c1 m A2 c2 m true w h1.2 h1.1 h2.2 h2.1 hK).mono fun e w' ⟨he, hd⟩ => ⟨he, E.below hd.below⟩

set_option maxHeartbeats 4000000 in
set_option maxRecDepth 100000 in
/-- All places of rows of one's own are numbered: they are apart, so each keeps its number. -/
theorem markSS_calls (lo hi : Nat) (A : Option Addr) (c : Nat) (m : List (List Int)) (vs : List Value) (a : Nat) (w0 w : World) (hB : Below w0.heap.size w0 w) (hlo : w0.heap.size ≤ lo) (hc0 : m.length ≤ c)
    (hM : Mx.Mx 34 3 w lo hi (.slice A m.length c) m vs) (hs : a + tot m ≤ 1000000000) (hr : ∀ r ∈ m, r.length ≤ 1048576) (hml : m.length ≤ 1048576) :
    Calls Try.prog 63 #[.slice A m.length c, .int .i64 (a : Int)] w fun e w' => e = .returned (.int .i64 ((a + tot m : Nat) : Int)) ∧ Mx.Mx 34 3 w' lo hi (.slice A m.length c) (marksS a m) vs ∧ Mx.Only lo hi w w' := by
  have HB := Aside0.mk hB
  have HM := Aside0.mk hM
  have HC := Aside0.mk hc0
  clear hB hM hc0
  go_enter Try.func63, Try.ntmps63
  go_wp2
  go_loopg [1, 5] m.length (fun gg s1 s5 wr => ∃ i : Nat, i ≤ m.length ∧ m.length - i ≤ gg ∧ s5 = .int .i64 i ∧ s1 = .int .i64 ((a + tot (m.take i) : Nat) : Int) ∧ Aside0 (Mx.Mx 34 3 wr lo hi (.slice A m.length c) (marksS a (m.take i) ++ m.drop i) vs) ∧ Aside0 (Mx.Only lo hi w wr))
  case atStart => exact ⟨0, Nat.zero_le _, by omega, rfl, by simp [tot], ⟨by simpa [marksS] using HM.out⟩, ⟨Mx.Only.refl _ _ _⟩⟩
  case round =>
    obtain ⟨i, hi', hg, rfl, rfl, HX, HO⟩ := hrel
    by_cases hlt : i < m.length
    · have hM := HX.out
      have hlen : (marksS a (m.take i) ++ m.drop i).length = m.length := by rw [List.length_append, marksS_length, ← List.length_append, List.take_append_drop]
      have hat : (marksS a (m.take i) ++ m.drop i)[i]? = some m[i] := by
        rw [List.getElem?_append_right (by rw [marksS_length, List.length_take]; omega), marksS_length, List.length_take, Nat.min_eq_left hi', Nat.sub_self, List.drop_eq_getElem_cons hlt]; rfl
      obtain ⟨u, hu⟩ := hM.at_ (i := i) (by rw [hlen]; exact hlt)
      have hrow := hM.row i m[i] u hat hu
      obtain ⟨g, cap, hv, hg0, hg1, _, _, hcell⟩ := hM.cells (by rw [hlen]; omega)
      have hc := (hcell i u hu).1
      clear hcell
      obtain ⟨K, hK⟩ := (laws_markIntS_ev m[i] (a + tot (m.take i)) (hr _ (List.getElem_mem hlt)) (by have := tot_take m i; omega)).rounds
      have hcall := laws_markIntS.calls K (fun k => some k = u.ownBlock) u m[i] _ _ _ w0 wr (HO.out.below HB.out HB.out.size hlo) (Kd.R_lower (Kd.R_tight rfl hrow) hlo) hK
      have hset : (marksS a (m.take i) ++ m.drop i).set i (marks (a + tot (m.take i)) m[i].length) = marksS a (m.take (i + 1)) ++ m.drop (i + 1) := by
        rw [List.set_append_right _ _ (by rw [marksS_length, List.length_take]; omega), marksS_length, List.length_take, Nat.min_eq_left hi', Nat.sub_self, List.drop_eq_getElem_cons hlt, List.set_cons_zero, List.take_succ_eq_append_getElem hlt, marksS_append, List.append_assoc]
        rfl
      have ht := tot_succ m i hlt
      obtain ⟨Au, cu, hus⟩ := Kd.R_slice hrow
      have HU := Aside0.mk hu
      have HR := Aside0.mk hrow
      have HA := Aside0.mk hat
      have HS := Aside0.mk hset
      have HT := Aside0.mk ht
      clear hM hlen hat hu hrow hK hset ht
      injection hv with hv1 hv2 hv3
      subst hv1
      clear hv2 hv3
      subst hus
      go_wp2_with (go_at_call 26; refine hcall.mono ?_; rintro e w1 ⟨rfl, hR1, hb1, hk1⟩)
      go_roundg (m.length - (i + 1))
      case measure => omega
      case rel =>
        refine ⟨i + 1, by omega, by omega, by go_num, by rw [HT.out]; congr 1; omega, ⟨?_⟩, ⟨HO.out.trans ?_⟩⟩
        · rw [← HS.out]
          exact HX.out.put (by decide) HU.out (fun k hk hne => hk1.2 k hk (fun he => hne he)) (Mx.row_base hR1 (fun k hk => ⟨(Mx.row_lo HR.out k hk).1, (Mx.row_lo HR.out k hk).2.1⟩))
        · exact Mx.Only.of_kept (HO.out.below HB.out HB.out.size hlo) hb1 hk1 (fun k hk => ⟨(Mx.row_lo HR.out k hk.symm).1, (Mx.row_lo HR.out k hk.symm).2.1⟩)
    · obtain rfl : i = m.length := by omega
      go_wp2
      go_ret
      have hx := HX.out
      rw [List.take_length, List.drop_length, List.append_nil] at hx
      exact ⟨by first | rfl | simp, hx, HO.out⟩
theorem markSS_one (lo hi : Nat) (A : Option Addr) (c : Nat) (m : List (List Int)) (vs : List Value) (w0 w : World) (hB : Below w0.heap.size w0 w) (hlo : w0.heap.size ≤ lo)
    (hM : Mx.Mx 34 3 w lo hi (.slice A m.length c) m vs) (hl : m.length ≤ 100) (hr : ∀ r ∈ m, r.length ≤ 1048576) (hs : tot m ≤ 100000000) :
    Calls Try.prog 63 #[.slice A m.length c, .int .i64 1] w fun e w' => e = .returned (.int .i64 ((1 + tot m : Nat) : Int)) ∧ Mx.Mx 34 3 w' lo hi (.slice A m.length c) (marksS 1 m) vs ∧ Mx.Only lo hi w w' := by
  have := markSS_calls lo hi A c m vs 1 w0 w hB hlo (hM.C' (by decide)).2.1 hM (by omega) hr (by omega)
  rwa [show ((1 : Nat) : Int) = 1 from rfl] at this

theorem markSS_e {w0 w : World} {L : List (Value × Env.It)} (E : Env.Env 34 3 w0 w L) (i : Nat) {A : Option Addr} {c : Nat} {m : List (List Int)} (hi : L[i]? = some (.slice A m.length c, .mat m)) (a : Nat) (z : Int) (hz : z = (a : Int)) (n : Nat) (hn : n = a + tot m) (hml : m.length ≤ 1048576) (hr : ∀ r ∈ m, r.length ≤ 1048576) (hs : n ≤ 1000000000) :
    Calls Try.prog 63 #[.slice A m.length c, .int .i64 z] w fun e w' => e = .returned (.int .i64 (n : Int)) ∧ Env.Env 34 3 w0 w' (L.set i (.slice A m.length c, .mat (marksS a m))) := by
  subst hz hn
  obtain ⟨lo, hi', h1, h2, ⟨vs, hM⟩, h4⟩ := E.turn i hi
  exact (markSS_calls lo hi' A c m vs a w0 w E.1 h1 (hM.C' (by decide)).2.1 hM hs hr hml).mono fun e w' ⟨he, hM', ho⟩ => ⟨he, h4 w' (.mat (marksS a m)) ho ⟨vs, hM'⟩⟩
theorem heldSS_e {w0 w : World} {L : List (Value × Env.It)} (E : Env.Env 34 3 w0 w L) (i : Nat) {A : Option Addr} {c : Nat} {m : List (List Int)} (a : Nat) (hi : L[i]? = some (.slice A m.length c, .mat (marksS a m))) (z : Int) (hz : z = (a : Int)) (n : Nat) (hn : n = a + tot m) (hml : m.length ≤ 1048576) (hs : n ≤ 1000000000) :
    Calls Try.prog 64 #[.slice A m.length c, .int .i64 z] w fun e w' => e = .returned (.int .i64 (n : Int)) ∧ Env.Env 34 3 w0 w' L := by
  subst hz hn
  obtain ⟨K, hK⟩ := laws_heldIntSS_ev a m (by omega) hml
  have hC := E.C (by decide) i hi
  have := laws_heldIntSS.calls K A c (marksS a m) (a : Int) _ w hC (by rw [marksS_length]; exact E.cap (by decide) i hi) hK
  rw [marksS_length] at this
  exact this.mono fun e w' ⟨he, hd⟩ => ⟨he, E.below hd.below⟩

set_option maxHeartbeats 8000000 in
set_option maxRecDepth 100000 in
theorem laws_FnExactCodeMatrix_calls (a0 : Int) (a1 : Int) (w : World) (hw0 : (Lit.int .i64 a0).wf = true) (hw1 : (Lit.int .i64 a1).wf = true) :
    Calls Try.prog 13 #[.int .i64 a0, .int .i64 a1] w fun e w' => e = .returned (.bool true) ∧ Below w.heap.size w w' := by
  have HG0 := Aside0.mk hw0
  clear hw0
  have HG1 := Aside0.mk hw1
  clear hw1
  have ENV := Aside0.mk (Env.Env.start (e := 34) (t := 3) w)
  obtain ⟨K91, h91⟩ := (spec_CodeMatrix_ev a0 a1).rounds
  obtain ⟨K92, h92⟩ := (impl_CodeMatrix_ev a0 a1).rounds
  have hsm := le_small (codeV_small a0 a1)
  generalize codeV a0 a1 = g at h91 h92 hsm
  obtain ⟨r0, r1⟩ := g
  obtain ⟨hl_, hq_⟩ : r0.length ≤ 1000 ∧ ∀ r ∈ r0, r.length ≤ 1000 := hsm
  have hT_ := tot_le hq_
  have HP := Aside0.mk (show r0.length ≤ 1048576 ∧ (∀ r ∈ r0, r.length ≤ 1048576) ∧ tot r0 ≤ 1000000 from ⟨by omega, fun r h => by have := hq_ r h; omega, by have := Nat.mul_le_mul_right 1000 hl_; omega⟩)
  clear hl_ hq_ hT_
  have cc91 := fun (w_ : World) => spec_CodeMatrix.calls K91 a0 a1 r0 r1 w_  h91
  have cc92 := fun (w_ : World) => impl_CodeMatrix.calls K92 a0 a1 r0 r1 w_  h92
  have e1 : (r1 != r1) = false := by simp
  have e1b : (r1 == r1) = true := by simp
  clear h91 h92
  obtain ⟨kg, hkg⟩ : ∃ n : Nat, n = 1 + tot r0 := ⟨_, rfl⟩
  have HKG := Aside0.mk hkg
  have HKGB := Aside0.mk (show kg ≤ 2000000 by have := HP.out.2.2; omega)
  clear hkg
  have qg : decide ((kg : Int) < 0) = false := decide_eq_false (by omega)
  have qg2 : ((kg : Int) != (kg : Int)) = false := by simp
  have qg3 : ((kg : Int) == (kg : Int)) = true := by simp
  go_enter Try.func13, Try.ntmps13
  go_wp2_with fail
  refine (cc91  _ ).mono ?_
  rintro e w1 ⟨v_, rfl, hS_, hb_⟩
  obtain ⟨B1, d1, rfl, hE_⟩ := ENV.out.madeN hS_ hb_
  clear hS_ hb_
  replace ENV := Aside0.mk hE_
  clear hE_
  go_wp2_with fail
  refine (cc92  _ ).mono ?_
  rintro e w2 ⟨v_, rfl, hS_, hb_⟩
  obtain ⟨B2, d2, rfl, hE_⟩ := ENV.out.madeS (by decide) hS_ hb_
  clear hS_ hb_
  replace ENV := Aside0.mk hE_
  clear hE_
  go_wp2_with fail
  refine (eqSS_e ENV.out 0 1 (A1 := B2) (A2 := B1) (c1 := d2) (c2 := d1) rfl rfl rfl rfl HP.out.1 HP.out.2.1).mono ?_
  rintro e w3 ⟨rfl, hE_⟩
  replace ENV := Aside0.mk hE_
  clear hE_
  go_wp2_with fail
  refine (markSS_e ENV.out 0 (A := B2) (c := d2) rfl 1 _ rfl kg HKG.out HP.out.1 HP.out.2.1 (by have := HKGB.out; omega)).mono ?_
  rintro e w4 ⟨rfl, hE_⟩
  replace ENV := Aside0.mk hE_
  clear hE_
  go_wp2_with fail
  refine (heldSS_e ENV.out 0 (A := B2) (c := d2) (m := r0) 1 rfl _ rfl kg HKG.out HP.out.1 (by have := HKGB.out; omega)).mono ?_
  rintro e w5 ⟨rfl, hE_⟩
  replace ENV := Aside0.mk hE_
  clear hE_
  go_wp2_with fail
  refine (cc92  _ ).mono ?_
  rintro e w6 ⟨v_, rfl, hS_, hb_⟩
  obtain ⟨B6, d6, rfl, hE_⟩ := ENV.out.madeS (by decide) hS_ hb_
  clear hS_ hb_
  replace ENV := Aside0.mk hE_
  clear hE_
  go_wp2_with fail
  refine (eqSS_e ENV.out 0 2 (A1 := B6) (A2 := B1) (c1 := d6) (c2 := d1) rfl rfl rfl rfl HP.out.1 HP.out.2.1).mono ?_
  rintro e w7 ⟨rfl, hE_⟩
  replace ENV := Aside0.mk hE_
  clear hE_
  go_wp2_with fail
  refine (heldSS_e ENV.out 1 (A := B2) (c := d2) (m := r0) 1 rfl _ rfl kg HKG.out HP.out.1 (by have := HKGB.out; omega)).mono ?_
  rintro e w8 ⟨rfl, hE_⟩
  replace ENV := Aside0.mk hE_
  clear hE_
  go_wp2
  go_ret
  exact ⟨rfl, ENV.out.1⟩

end Go.Proofs.Ytekadhniinpdfaa.Pure
