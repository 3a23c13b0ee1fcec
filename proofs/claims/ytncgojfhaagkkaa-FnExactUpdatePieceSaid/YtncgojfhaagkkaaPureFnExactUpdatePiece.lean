/- UpdatePiece answers as the reference's UpdatePiece does, turns nothing that it was handed, and answers in memory of its own: the walk of the law. No conditions beyond the row's own. -/
import Derived.Test.YtncgojfhaagkkaaMFnExactUpdatePiecex6
import Derived.Test.YtncgojfhaagkkaaMFnExactUpdatePiecex0
import Derived.Test.YtncgojfhaagkkaaMFnExactUpdatePiecex1
import Derived.Test.YtncgojfhaagkkaaMFnExactUpdatePiecex2
import Derived.Test.YtncgojfhaagkkaaMFnExactUpdatePiecex3
import Derived.Test.YtncgojfhaagkkaaMFnExactUpdatePiecex4
import Derived.Test.YtncgojfhaagkkaaMFnExactUpdatePiecex5
import Derived.Test.YtncgojfhaagkkaaBit
import Derived.Test.YtncgojfhaagkkaaPoly
import Derived.Test.YtncgojfhaagkkaaMat
import Derived.Test.YtncgojfhaagkkaaMx
import Derived.Test.YtncgojfhaagkkaaEnv
import Derived.StillTailTactics
set_option linter.unusedVariables false
set_option linter.unusedSimpArgs false
namespace Go.Proofs.Ytncgojfhaagkkaa.Pure
open Go.RowKit Go.Proofs.Ytncgojfhaagkkaa Go.Proofs.Ytncgojfhaagkkaa.MFnExactUpdatePiece Go.Proofs.YtncgojfhaagkkaaW.PrintWords Go.Proofs.YtncgojfhaagkkaaW.PrintLast Go.Proofs.Ytncgojfhaagkkaa.Bit

theorem impl_within_eq (a b c : Int) : impl_within.f a b c = some (decide (b ≤ a ∧ a ≤ c)) := by
  unfold impl_within.f
  by_cases h : a ≥ b
  · rw [if_pos h]; congr 1; simp [show b ≤ a from h]
  · rw [if_neg h]; congr 1; simp; omega

/-- Is a number an element? -/
def isB (a : Int) : Bool := decide (0 ≤ a ∧ a ≤ 255)
theorem isB_nat {a : Int} (h : isB a = true) : ∃ n : Nat, a = (n : Int) ∧ n < 256 := by
  simp only [isB, decide_eq_true_eq] at h
  exact ⟨a.toNat, by omega, by omega⟩
theorem isB_cast {n : Nat} (h : n < 256) : isB (n : Int) = true := by simp only [isB, decide_eq_true_eq]; omega

theorem impl_isGf_eq (a : Int) : impl_isGf.f a = some (isB a) := by
  unfold impl_isGf.f; rw [impl_within_eq]; rfl

theorem nat_nn (n : Nat) : ((n : Int) < 0) = False := by simp
theorem one_nat : (1 : Int) = ((1 : Nat) : Int) := rfl
theorem one_nn (n : Nat) : (((n : Nat) : Int) = ((n : Nat) : Int)) = True := by simp

theorem laws_szIntS_eq (l : List Int) (a : Int) (h0 : 0 ≤ a) (h1 : a ≤ 1048576) (hl : l.length ≤ 9223372036854775807) : laws_szIntS.f l a = some (if a - l.length < 0 then -1 else a - l.length) := by
  unfold laws_szIntS.f
  rw [wrap_id (by omega) (by omega)]
  split <;> rfl

theorem rd_nat (l : List Int) (i : Nat) (h : i < l.length) : rd l (i : Int) = l[i] := by
  unfold rd
  simp [List.getD_eq_getElem?_getD, List.getElem?_eq_getElem h]
theorem wrap_succ (i : Nat) (h : i < 9223372036854775807) : wrap64 ((i : Int) + 1) = ((i + 1 : Nat) : Int) := by rw [wrap_id (by omega) (by omega)]; omega

/-- The numbers m, m + 1, .., n of them. -/
def marks (m n : Nat) : List Int := (List.range n).map fun j => ((m + j : Nat) : Int)
theorem marks_length (m n : Nat) : (marks m n).length = n := by simp [marks]
theorem marks_succ (m n : Nat) : marks m (n + 1) = marks m n ++ [((m + n : Nat) : Int)] := by simp [marks, List.range_succ]
theorem marks_get (m n i : Nat) (h : i < (marks m n).length) : (marks m n)[i] = ((m + i : Nat) : Int) := by simp [marks]

/-- All places numbered from a on. -/
def marksS : Nat → List (List Int) → List (List Int)
  | _, [] => []
  | a, r :: m => marks a r.length :: marksS (a + r.length) m
def tot : List (List Int) → Nat
  | [] => 0
  | r :: m => r.length + tot m
theorem marksS_length : ∀ (a : Nat) (m : List (List Int)), (marksS a m).length = m.length
  | _, [] => rfl
  | a, r :: m => by simp only [marksS, List.length_cons, marksS_length]
theorem tot_append : ∀ (l m : List (List Int)), tot (l ++ m) = tot l + tot m
  | [], m => by simp [tot]
  | r :: l, m => by simp only [List.cons_append, tot, tot_append l m]; omega
theorem tot_take (m : List (List Int)) (i : Nat) : tot (m.take i) ≤ tot m := by
  have := tot_append (m.take i) (m.drop i)
  rw [List.take_append_drop] at this; omega
theorem tot_succ (m : List (List Int)) (i : Nat) (h : i < m.length) : tot (m.take (i + 1)) = tot (m.take i) + m[i].length := by
  rw [List.take_succ_eq_append_getElem h, tot_append]
  simp [tot]
theorem marksS_append : ∀ (a : Nat) (l m : List (List Int)), marksS a (l ++ m) = marksS a l ++ marksS (a + tot l) m
  | a, [], m => by simp [marksS, tot]
  | a, r :: l, m => by simp only [List.cons_append, marksS, tot, marksS_append (a + r.length) l m, Nat.add_assoc]
theorem tot_marksS : ∀ (a : Nat) (m : List (List Int)), tot (marksS a m) = tot m
  | _, [] => rfl
  | a, r :: m => by simp only [marksS, tot, marks_length, tot_marksS]
theorem tot_le : ∀ {m : List (List Int)} {b : Nat}, (∀ r ∈ m, r.length ≤ b) → tot m ≤ m.length * b
  | [], _, _ => by simp [tot]
  | r :: m, b, h => by
    have h1 := h r List.mem_cons_self
    have h2 := tot_le (m := m) (fun x hx => h x (List.mem_cons_of_mem _ hx))
    simp only [tot, List.length_cons, Nat.succ_mul]; omega
theorem marksS_get : ∀ (a : Nat) (m : List (List Int)) (i : Nat) (h : i < m.length) (h' : i < (marksS a m).length), (marksS a m)[i] = marks (a + tot (m.take i)) m[i].length
  | a, r :: m, 0, _, _ => by simp [marksS, tot]
  | a, r :: m, i + 1, h, h' => by
    simp only [marksS, List.getElem_cons_succ, List.take_succ_cons, tot]
    rw [marksS_get (a + r.length) m i (by simpa using h)]
    rw [Nat.add_assoc]

theorem rdL_nat (l : List (List Int)) (i : Nat) (h : i < l.length) : rd_L1 l (i : Int) = l[i] := by
  unfold rd_L1
  simp [List.getD_eq_getElem?_getD, List.getElem?_eq_getElem h]

/-- What is left of a measure. -/
def szV (m : List (List Int)) (a : Int) : Int := if a - (m.length + tot m : Nat) < 0 then -1 else a - (m.length + tot m : Nat)
theorem laws_szIntSS_l0 (m : List (List Int)) (hm : m.length ≤ 9223372036854775807) (hr : ∀ r ∈ m, r.length ≤ 9223372036854775807) : ∀ (d i : Nat) (a : Int), i + d = m.length → 0 ≤ a → a ≤ 1048576 →
    Ev (fun k => laws_szIntSS.l0 k m a (i : Int)) (if a - (tot (m.drop i) : Nat) < 0 then -1 else a - (tot (m.drop i) : Nat)) := by
  intro d
  induction d with
  | zero =>
    intro i a hi h0 h1
    obtain rfl : i = m.length := by omega
    rw [List.drop_length, show tot [] = 0 from rfl, if_neg (by omega), show a - ((0 : Nat) : Int) = a by omega]
    exact Ev.step (f := fun _ => some a) (fun k => by rw [laws_szIntSS.l0.eq_2, if_neg (by omega)]) (Ev.now _)
  | succ d ih =>
    intro i a hi h0 h1
    have hlt : i < m.length := by omega
    have hx := hr _ (List.getElem_mem hlt)
    have et : tot (m.drop i) = m[i].length + tot (m.drop (i + 1)) := by rw [List.drop_eq_getElem_cons hlt]; rfl
    rw [et]
    by_cases hn : a - (m[i].length : Int) < 0
    · rw [if_pos (by omega)]
      refine Ev.step (f := fun _ => some (-1)) (fun k => ?_) (Ev.now _)
      rw [laws_szIntSS.l0.eq_2, if_pos (by omega), if_pos (by omega), rdL_nat m i hlt, laws_szIntS_eq _ a h0 h1 hx, if_pos hn, Option.bind_some, if_pos (by omega)]
    · have e := ih (i + 1) (a - (m[i].length : Int)) (by omega) (by omega) (by omega)
      rw [show a - (m[i].length : Int) - ((tot (m.drop (i + 1)) : Nat) : Int) = a - ((m[i].length + tot (m.drop (i + 1)) : Nat) : Int) by omega] at e
      refine Ev.step (f := fun k => laws_szIntSS.l0 k m (a - (m[i].length : Int)) ((i + 1 : Nat) : Int)) (fun k => ?_) e
      rw [laws_szIntSS.l0.eq_2, if_pos (by omega), if_pos (by omega), rdL_nat m i hlt, laws_szIntS_eq _ a h0 h1 hx, if_neg hn, Option.bind_some, if_neg hn, wrap_succ i (by omega)]
theorem laws_szIntSS_ev (m : List (List Int)) (hm : m.length ≤ 9223372036854775807) (hr : ∀ r ∈ m, r.length ≤ 9223372036854775807) (a : Int) (h0 : 0 ≤ a) (h1 : a ≤ 1048576) : Ev (fun k => laws_szIntSS.f k m a) (szV m a) := by
  unfold laws_szIntSS.f szV
  rw [wrap_id (by omega) (by omega)]
  by_cases hn : a - (m.length : Int) < 0
  · simp only [if_pos hn, if_pos (show a - ((m.length + tot m : Nat) : Int) < 0 by omega)]
    exact Ev.now _
  · simp only [if_neg hn]
    have := laws_szIntSS_l0 m hm hr m.length 0 (a - m.length) (by omega) (by omega) (by omega)
    rw [List.drop_zero, show a - (m.length : Int) - ((tot m : Nat) : Int) = a - ((m.length + tot m : Nat) : Int) by omega] at this
    exact this

theorem laws_toIntS_l0 (l : List Int) (hl : l.length ≤ 1048576) : ∀ d i : Nat, i + d = l.length → Ev (fun k => laws_toIntS.l0 k l (l.take i ++ List.replicate d 0) (i : Int)) l := by
  intro d
  induction d with
  | zero =>
    intro i hi
    obtain rfl : i = l.length := by omega
    exact Ev.step (f := fun _ => some l) (fun k => by simp only [laws_toIntS.l0]; rw [if_neg (by omega)]; simp) (Ev.now _)
  | succ d ih =>
    intro i hi
    have hlt : i < l.length := by omega
    refine Ev.step (f := fun k => laws_toIntS.l0 k l (l.take (i + 1) ++ List.replicate d 0) ((i + 1 : Nat) : Int)) (fun k => ?_) (ih (i + 1) (by omega))
    have e : ((l.take i ++ List.replicate (d + 1) 0).set i l[i]) = l.take (i + 1) ++ List.replicate d 0 := by
      rw [List.set_append_right _ _ (by simp; omega)]
      simp only [List.length_take, Nat.min_eq_left (Nat.le_of_lt hlt), Nat.sub_self, List.replicate_succ, List.set_cons_zero]
      rw [List.take_succ_eq_append_getElem hlt, List.append_assoc]; rfl
    have z : (i : Int) < ((l.take i ++ List.replicate (d + 1) (0 : Int)).length : Int) := by simp only [List.length_append, List.length_take, List.length_replicate]; omega
    simp only [laws_toIntS.l0, rd_nat l i hlt, wrap_succ i (by omega), Int.toNat_natCast]
    rw [if_pos (by omega), if_pos (by omega), if_pos z, e]
theorem laws_toIntS_ev (l : List Int) (hl : l.length ≤ 1048576) : Ev (fun k => laws_toIntS.f k l) l := by
  unfold laws_toIntS.f
  have z1 : (0 : Int) ≤ (l.length : Int) := by omega
  have z2 : (l.length : Int).toNat ≤ 35184372088832 := by omega
  simp only [if_pos z1, if_pos z2]
  have := laws_toIntS_l0 l hl l.length 0 (by omega)
  simpa using this

theorem laws_eqIntS_l0 (l m : List Int) (hlm : l.length = m.length) (hl : l.length ≤ 140737488351232) : ∀ d i : Nat, i + d = l.length → Ev (fun k => laws_eqIntS.l0 k l m (i : Int)) (decide (l.drop i = m.drop i)) := by
  intro d
  induction d with
  | zero =>
    intro i hi
    obtain rfl : i = l.length := by omega
    have e : decide (l.drop l.length = m.drop l.length) = true := by
      have e2 : m.drop l.length = [] := by rw [hlm, List.drop_length]
      rw [e2, List.drop_length]; rfl
    rw [e]
    exact Ev.step (f := fun _ => some true) (fun k => by simp only [laws_eqIntS.l0]; rw [if_neg (by omega)]) (Ev.now _)
  | succ d ih =>
    intro i hi
    have hlt : i < l.length := by omega
    have hlt2 : i < m.length := by omega
    rw [List.drop_eq_getElem_cons hlt, List.drop_eq_getElem_cons hlt2]
    by_cases e : l[i] = m[i]
    · have : decide (l[i] :: l.drop (i + 1) = m[i] :: m.drop (i + 1)) = decide (l.drop (i + 1) = m.drop (i + 1)) := by simp only [List.cons.injEq, e, true_and]
      rw [this]
      refine Ev.step (f := fun k => laws_eqIntS.l0 k l m ((i + 1 : Nat) : Int)) (fun k => ?_) (ih (i + 1) (by omega))
      simp only [laws_eqIntS.l0, rd_nat l i hlt, rd_nat m i hlt2, wrap_succ i (by omega)]
      rw [if_pos (by omega), if_pos (by omega), if_pos (by omega), if_pos e]
    · have : decide (l[i] :: l.drop (i + 1) = m[i] :: m.drop (i + 1)) = false := by simp only [List.cons.injEq, e, false_and, decide_false]
      rw [this]
      refine Ev.step (f := fun k => some false) (fun k => ?_) (Ev.now _)
      simp only [laws_eqIntS.l0, rd_nat l i hlt, rd_nat m i hlt2, wrap_succ i (by omega)]
      rw [if_pos (by omega), if_pos (by omega), if_pos (by omega), if_neg e]
theorem laws_eqIntS_ev (l m : List Int) (hl : l.length ≤ 140737488351232) : Ev (fun k => laws_eqIntS.f k l m) (decide (l = m)) := by
  unfold laws_eqIntS.f
  by_cases h : l.length = m.length
  · simp only [if_pos (show (l.length : Int) = (m.length : Int) by omega)]
    exact laws_eqIntS_l0 l m h hl l.length 0 (by omega)
  · simp only [if_neg (show ¬ (l.length : Int) = (m.length : Int) by omega)]
    have : decide (l = m) = false := by simp only [decide_eq_false_iff_not]; rintro rfl; exact h rfl
    rw [this]
    exact Ev.now _

theorem laws_eqIntSS_l0 (l m : List (List Int)) (hlm : l.length = m.length) (hl : l.length ≤ 140737488351232) (hr : ∀ r ∈ l, r.length ≤ 140737488351232) : ∀ d i : Nat, i + d = l.length → Ev (fun k => laws_eqIntSS.l0 k l m (i : Int)) (decide (l.drop i = m.drop i)) := by
  intro d
  induction d with
  | zero =>
    intro i hi
    obtain rfl : i = l.length := by omega
    have e : decide (l.drop l.length = m.drop l.length) = true := by
      have e2 : m.drop l.length = [] := by rw [hlm, List.drop_length]
      rw [e2, List.drop_length]; rfl
    rw [e]
    exact Ev.step (f := fun _ => some true) (fun k => by rw [laws_eqIntSS.l0.eq_2, if_neg (by omega)]) (Ev.now _)
  | succ d ih =>
    intro i hi
    have hlt : i < l.length := by omega
    have hlt2 : i < m.length := by omega
    rw [List.drop_eq_getElem_cons hlt, List.drop_eq_getElem_cons hlt2]
    have E := laws_eqIntS_ev l[i] m[i] (hr _ (List.getElem_mem hlt))
    refine Ev.step (f := fun k => (laws_eqIntS.f k l[i] m[i]).bind fun t => if t = true then laws_eqIntSS.l0 k l m ((i + 1 : Nat) : Int) else some false) (fun k => ?_) (Ev.bind (f := fun k t => if t = true then laws_eqIntSS.l0 k l m ((i + 1 : Nat) : Int) else some false) E ?_)
    · rw [laws_eqIntSS.l0.eq_2, if_pos (by omega), if_pos (by omega), if_pos (by omega), rdL_nat l i hlt, rdL_nat m i hlt2, wrap_succ i (by omega)]
    · by_cases e : l[i] = m[i]
      · have e2 : decide (l[i] :: l.drop (i + 1) = m[i] :: m.drop (i + 1)) = decide (l.drop (i + 1) = m.drop (i + 1)) := by simp only [List.cons.injEq, e, true_and]
        rw [e2, decide_eq_true e]
        simp only [if_true]
        exact ih (i + 1) (by omega)
      · have e2 : decide (l[i] :: l.drop (i + 1) = m[i] :: m.drop (i + 1)) = false := by simp only [List.cons.injEq, e, false_and, decide_false]
        rw [e2, decide_eq_false e]
        simp only [Bool.false_eq_true, if_false]
        exact Ev.now _
theorem laws_eqIntSS_ev (l m : List (List Int)) (hl : l.length ≤ 140737488351232) (hr : ∀ r ∈ l, r.length ≤ 140737488351232) : Ev (fun k => laws_eqIntSS.f k l m) (decide (l = m)) := by
  unfold laws_eqIntSS.f
  by_cases h : l.length = m.length
  · simp only [if_pos (show (l.length : Int) = (m.length : Int) by omega)]
    exact laws_eqIntSS_l0 l m h hl hr l.length 0 (by omega)
  · simp only [if_neg (show ¬ (l.length : Int) = (m.length : Int) by omega)]
    have : decide (l = m) = false := by simp only [decide_eq_false_iff_not]; rintro rfl; exact h rfl
    rw [this]
    exact Ev.now _
theorem laws_eqIntSS_same (l : List (List Int)) (hl : l.length ≤ 1048576) (hr : ∀ r ∈ l, r.length ≤ 1048576) : ∃ K, laws_eqIntSS.f K l l = some true := by
  have := laws_eqIntSS_ev l l (by omega) (fun r h => by have := hr r h; omega)
  rw [decide_eq_true rfl] at this
  exact this.rounds

theorem laws_markIntS_l0 (l : List Int) (m : Nat) (hl : l.length ≤ 1048576) (hm : m ≤ 1000000000) : ∀ d i : Nat, i + d = l.length → Ev (fun k => laws_markIntS.l0 k (marks m i ++ l.drop i) ((m + i : Nat) : Int) (i : Int)) (((m + l.length : Nat) : Int), marks m l.length) := by
  intro d
  induction d with
  | zero =>
    intro i hi
    obtain rfl : i = l.length := by omega
    refine Ev.step (f := fun _ => some (((m + l.length : Nat) : Int), marks m l.length)) (fun k => ?_) (Ev.now _)
    simp only [laws_markIntS.l0, List.drop_length, List.append_nil, marks_length]
    rw [if_neg (by omega)]
  | succ d ih =>
    intro i hi
    have hlt : i < l.length := by omega
    refine Ev.step (f := fun k => laws_markIntS.l0 k (marks m (i + 1) ++ l.drop (i + 1)) ((m + (i + 1) : Nat) : Int) ((i + 1 : Nat) : Int)) (fun k => ?_) (ih (i + 1) (by omega))
    have e : (marks m i ++ l.drop i).set i ((m + i : Nat) : Int) = marks m (i + 1) ++ l.drop (i + 1) := by
      rw [List.set_append_right _ _ (by rw [marks_length]; omega), marks_length, Nat.sub_self, List.drop_eq_getElem_cons hlt, List.set_cons_zero, marks_succ, List.append_assoc]
      rfl
    have hlen : (marks m i ++ l.drop i).length = l.length := by rw [List.length_append, marks_length, List.length_drop]; omega
    have e2 : wrap64 (((m + i : Nat) : Int) + 1) = ((m + (i + 1) : Nat) : Int) := by rw [wrap_id (by omega) (by omega)]; omega
    simp only [laws_markIntS.l0, hlen, Int.toNat_natCast, e, e2, wrap_succ i (by omega)]
    rw [if_pos (by omega), if_pos (by omega)]
theorem laws_markIntS_ev (l : List Int) (m : Nat) (hl : l.length ≤ 1048576) (hm : m ≤ 1000000000) : Ev (fun k => laws_markIntS.f k l (m : Int)) (((m + l.length : Nat) : Int), marks m l.length) := by
  have := laws_markIntS_l0 l m hl hm l.length 0 (by omega)
  simp only [marks, List.range_zero, List.map_nil, List.nil_append, List.drop_zero, Nat.add_zero] at this
  exact this

theorem laws_heldIntS_l0 (m n : Nat) (h : m + n ≤ 2000000000) : ∀ d i : Nat, i + d = n → Ev (fun k => laws_heldIntS.l0 k (marks m n) ((m + i : Nat) : Int) (i : Int)) ((m + n : Nat) : Int) := by
  intro d
  induction d with
  | zero =>
    intro i hi
    obtain rfl : i = n := by omega
    refine Ev.step (f := fun _ => some ((m + i : Nat) : Int)) (fun k => ?_) (Ev.now _)
    simp only [laws_heldIntS.l0, marks_length]
    rw [if_neg (by omega)]
  | succ d ih =>
    intro i hi
    refine Ev.step (f := fun k => laws_heldIntS.l0 k (marks m n) ((m + (i + 1) : Nat) : Int) ((i + 1 : Nat) : Int)) (fun k => ?_) (ih (i + 1) (by omega))
    have hlt : i < (marks m n).length := by rw [marks_length]; omega
    have e2 : wrap64 (((m + i : Nat) : Int) + 1) = ((m + (i + 1) : Nat) : Int) := by rw [wrap_id (by omega) (by omega)]; omega
    simp only [laws_heldIntS.l0, rd_nat _ i hlt, marks_get, marks_length, e2, wrap_succ i (by omega)]
    rw [if_pos (by omega), if_pos (by omega)]
    simp
theorem laws_heldIntS_ev (m n : Nat) (h : m + n ≤ 2000000000) : Ev (fun k => laws_heldIntS.f k (marks m n) (m : Int)) ((m + n : Nat) : Int) := laws_heldIntS_l0 m n h n 0 (by omega)

theorem laws_heldIntSS_l0 (a : Nat) (m : List (List Int)) (h : a + tot m ≤ 2000000000) (hl : m.length ≤ 1048576) : ∀ d i : Nat, i + d = m.length → Ev (fun k => laws_heldIntSS.l0 k (marksS a m) ((a + tot (m.take i) : Nat) : Int) (i : Int)) ((a + tot m : Nat) : Int) := by
  intro d
  induction d with
  | zero =>
    intro i hi
    obtain rfl : i = m.length := by omega
    refine Ev.step (f := fun _ => some ((a + tot m : Nat) : Int)) (fun k => ?_) (Ev.now _)
    rw [laws_heldIntSS.l0.eq_2, marksS_length, if_neg (by omega), List.take_length]
  | succ d ih =>
    intro i hi
    have hlt : i < m.length := by omega
    have hlt2 : i < (marksS a m).length := by rw [marksS_length]; exact hlt
    have ht := tot_succ m i hlt
    have hb := tot_take m (i + 1)
    have E := laws_heldIntS_ev (a + tot (m.take i)) m[i].length (by omega)
    refine Ev.step (f := fun k => (laws_heldIntS.f k (marks (a + tot (m.take i)) m[i].length) ((a + tot (m.take i) : Nat) : Int)).bind fun t => if t < 0 then some (-1) else laws_heldIntSS.l0 k (marksS a m) t ((i + 1 : Nat) : Int)) (fun k => ?_)
      (Ev.bind (f := fun k t => if t < 0 then some (-1) else laws_heldIntSS.l0 k (marksS a m) t ((i + 1 : Nat) : Int)) E ?_)
    · rw [laws_heldIntSS.l0.eq_2, marksS_length, if_pos (by omega), if_pos (by omega), rdL_nat _ i hlt2, marksS_get a m i hlt, wrap_succ i (by omega)]
    · have e : a + tot (m.take i) + m[i].length = a + tot (m.take (i + 1)) := by omega
      simp only [e, if_neg (show ¬ ((a + tot (m.take (i + 1)) : Nat) : Int) < 0 by omega)]
      exact ih (i + 1) (by omega)
theorem laws_heldIntSS_ev (a : Nat) (m : List (List Int)) (h : a + tot m ≤ 2000000000) (hl : m.length ≤ 1048576) : ∃ K, laws_heldIntSS.f K (marksS a m) (a : Int) = some ((a + tot m : Nat) : Int) := by
  have := laws_heldIntSS_l0 a m h hl m.length 0 (by omega)
  exact this.rounds

theorem spec_l1In_eq (a b c : Int) : spec_l1In.f a b c = some (decide (b ≤ a ∧ a ≤ c)) := by
  unfold spec_l1In.f
  by_cases h : a ≥ b
  · rw [if_pos h]; congr 1; simp [show b ≤ a from h]
  · rw [if_neg h]; congr 1; simp; omega

theorem spec_l1Gf_eq (a : Int) : spec_l1Gf.f a = some (isB a) := by
  unfold spec_l1Gf.f; rw [spec_l1In_eq]; rfl

theorem rd_get (l : List Int) (i : Nat) (h : i < l.length) : rd l (i : Int) = l[i] := by
  unfold rd
  simp [List.getD_eq_getElem?_getD, List.getElem?_eq_getElem h]
theorem wrap_up (i : Nat) (h : i < 9223372036854775807) : wrap64 ((i : Int) + 1) = ((i + 1 : Nat) : Int) := by rw [wrap_id (by omega) (by omega)]; omega
theorem wrap_down (a : Nat) (h : a ≤ 9223372036854775807) : wrap64 ((a : Int) - 1) = (a : Int) - 1 := wrap_id (by omega) (by omega)
theorem allB_up {l : List Int} (h : l.all isB = true) : ∃ m : List Nat, l = Poly.up m ∧ Poly.AllB m := by
  refine Poly.up_of fun x hx => ?_
  have := List.all_eq_true.1 h x hx
  simpa [isB] using this
theorem up_allB {m : List Nat} (h : Poly.AllB m) : (Poly.up m).all isB = true := by
  rw [List.all_eq_true]
  intro x hx
  have := Poly.up_bytes h x hx
  simp only [isB, decide_eq_true_eq]; omega

theorem spec_l1All_l0 (l : List Int) (hl : l.length ≤ 140737488351232) : ∀ d i : Nat, i + d = l.length → Ev (fun k => spec_l1All.l0 k l (l.length : Int) (i : Int)) ((l.drop i).all isB) := by
  intro d
  induction d with
  | zero =>
    intro i hi
    obtain rfl : i = l.length := by omega
    rw [List.drop_length]
    exact Ev.step (f := fun _ => some true) (fun k => by simp only [spec_l1All.l0]; rw [if_neg (by omega)]) (Ev.now _)
  | succ d ih =>
    intro i hi
    have hlt : i < l.length := by omega
    rw [List.drop_eq_getElem_cons hlt, List.all_cons]
    cases hb : isB l[i] with
    | true =>
      refine Ev.step (f := fun k => spec_l1All.l0 k l (l.length : Int) ((i + 1 : Nat) : Int)) (fun k => ?_) (ih (i + 1) (by omega))
      simp only [spec_l1All.l0, rd_get l i hlt, wrap_up i (by omega), spec_l1Gf_eq, hb, Option.bind_some, if_true]
      rw [if_pos (by omega), if_pos (by omega), if_pos (by omega)]
    | false =>
      refine Ev.step (f := fun _ => some false) (fun k => ?_) (Ev.now _)
      simp only [spec_l1All.l0, rd_get l i hlt, wrap_up i (by omega), spec_l1Gf_eq, hb, Option.bind_some]
      rw [if_pos (by omega), if_pos (by omega), if_pos (by omega)]; rfl
theorem spec_l1All_ev (l : List Int) (hl : l.length ≤ 140737488351232) : Ev (fun k => spec_l1All.f k l) (l.all isB) := spec_l1All_l0 l hl l.length 0 (by omega)

theorem xor_up {a b : Nat} (ha : a < 256) (hb : b < 256) : Go.bits .xor .i64 (a : Int) (b : Int) = ((a ^^^ b : Nat) : Int) := xor_nat (by omega) (by omega)
theorem wrap_nat (n : Nat) (h : n ≤ 9223372036854775807) : wrap64 (n : Int) = (n : Int) := wrap_id (by omega) (by omega)
theorem wrap_add (a b : Nat) (h : a + b ≤ 9223372036854775807) : wrap64 ((a : Int) + (b : Int)) = ((a + b : Nat) : Int) := by rw [wrap_id (by omega) (by omega)]; omega
theorem wrap_pred (a : Nat) (h : a ≤ 9223372036854775807) (h0 : 0 < a) : wrap64 ((a : Int) - 1) = ((a - 1 : Nat) : Int) := by rw [wrap_id (by omega) (by omega)]; omega

/-- Lists of rows of natural numbers as Go's. -/
def upM (m : List (List Nat)) : List (List Int) := m.map Poly.up
def dnM (m : List (List Int)) : List (List Nat) := m.map fun r => r.map Int.toNat
theorem upM_length (m : List (List Nat)) : (upM m).length = m.length := by simp [upM]
theorem upM_snoc (m : List (List Nat)) (r : List Nat) : upM m ++ [Poly.up r] = upM (m ++ [r]) := by simp [upM]
theorem upM_append (l m : List (List Nat)) : upM l ++ upM m = upM (l ++ m) := by simp [upM]
theorem upM_set (m : List (List Nat)) (i : Nat) (r : List Nat) : (upM m).set i (Poly.up r) = upM (m.set i r) := by simp [upM, List.map_set]
theorem upM_nil : ([] : List (List Int)) = upM [] := rfl
theorem upM_getD (m : List (List Nat)) (i : Nat) : (upM m).getD i [] = Poly.up (m.getD i []) := by
  unfold upM
  rw [List.getD_eq_getElem?_getD, List.getElem?_map, List.getD_eq_getElem?_getD]
  cases m[i]? <;> rfl
theorem rdL_up (m : List (List Nat)) (i : Nat) : rd_L1 (upM m) (i : Int) = Poly.up (m.getD i []) := by
  unfold rd_L1
  rw [Int.toNat_natCast]
  exact upM_getD m i
theorem rdL_up0 (m : List (List Nat)) : rd_L1 (upM m) 0 = Poly.up (m.getD 0 []) := rdL_up m 0
theorem dn_up (l : List Nat) : (Poly.up l).map Int.toNat = l := by
  unfold Poly.up
  rw [List.map_map]
  exact (List.map_congr_left (fun x _ => Int.toNat_natCast x)).trans (List.map_id' l)
theorem dnM_upM (m : List (List Nat)) : dnM (upM m) = m := by
  unfold dnM upM
  rw [List.map_map]
  exact (List.map_congr_left (fun x _ => dn_up x)).trans (List.map_id' m)
theorem upM_inj {l m : List (List Nat)} (h : upM l = upM m) : l = m := by rw [← dnM_upM l, h, dnM_upM]
/-- Rows of c elements. -/
def areR (c : Nat) (m : List (List Int)) : Bool := m.all fun r => decide (r.length = c) && r.all isB
theorem areR_up {c : Nat} : ∀ {m : List (List Int)}, areR c m = true → ∃ n, m = upM n ∧ Mat.MB' c n
  | [], _ => ⟨[], rfl, fun r hr => by cases hr⟩
  | r :: m, h => by
    simp only [areR, List.all_cons, Bool.and_eq_true, decide_eq_true_eq] at h
    obtain ⟨n, rfl, hn⟩ := areR_up (m := m) (by simpa [areR] using h.2)
    obtain ⟨q, rfl, hq⟩ := allB_up h.1.2
    refine ⟨q :: n, rfl, fun x hx => ?_⟩
    rcases List.mem_cons.1 hx with rfl | hx
    · exact ⟨by simpa [Poly.up_length] using h.1.1, hq⟩
    · exact hn x hx
theorem up_areR {c : Nat} {n : List (List Nat)} (h : Mat.MB' c n) : areR c (upM n) = true := by
  unfold areR upM
  rw [List.all_eq_true]
  intro x hx
  obtain ⟨r, hr, rfl⟩ := List.mem_map.1 hx
  rw [Bool.and_eq_true, decide_eq_true_eq, Poly.up_length]
  exact ⟨(h r hr).1, up_allB (h r hr).2⟩
def goodM (m : List (List Int)) : Bool := decide (1 ≤ m.length ∧ m.length ≤ 8) && (decide (1 ≤ (m.getD 0 []).length ∧ (m.getD 0 []).length ≤ 8) && areR (m.getD 0 []).length m)
theorem goodM_up {m : List (List Int)} (h : goodM m = true) : ∃ c n, m = upM n ∧ Mat.MB' c n ∧ (m.getD 0 []).length = c ∧ m.length = n.length ∧ 1 ≤ n.length ∧ n.length ≤ 8 ∧ 1 ≤ c ∧ c ≤ 8 := by
  simp only [goodM, Bool.and_eq_true, decide_eq_true_eq] at h
  obtain ⟨n, hn, hB⟩ := areR_up h.2.2
  exact ⟨_, n, hn, hB, rfl, by rw [hn, upM_length], by rw [← upM_length, ← hn]; exact h.1.1, by rw [← upM_length, ← hn]; exact h.1.2, h.2.1.1, h.2.1.2⟩
theorem up_goodM {c : Nat} {n : List (List Nat)} (h : Mat.MB' c n) (h1 : 1 ≤ n.length) (h2 : n.length ≤ 8) (h3 : 1 ≤ c) (h4 : c ≤ 8) : goodM (upM n) = true := by
  have e : ((upM n).getD 0 []).length = c := by rw [upM_getD, Poly.up_length]; exact (h.get (by omega)).1
  unfold goodM
  rw [e, up_areR h, upM_length, decide_eq_true (by omega), decide_eq_true (by omega)]; rfl
theorem goodM_rows {m : List (List Int)} (h : goodM m = true) : m.length ≤ 8 ∧ ∀ r ∈ m, r.length ≤ 8 := by
  obtain ⟨c, n, rfl, hB, _, _, _, h2, _, h4⟩ := goodM_up h
  refine ⟨by rw [upM_length]; exact h2, fun r hr => ?_⟩
  obtain ⟨q, hq, rfl⟩ := List.mem_map.1 hr
  rw [Poly.up_length, (hB q hq).1]; exact h4
theorem upM_small {c k : Nat} {n : List (List Nat)} (h : Mat.MB' c n) (hl : n.length ≤ k) (hc : c ≤ k) : (upM n).length ≤ k ∧ ∀ r ∈ upM n, r.length ≤ k := by
  refine ⟨by rw [upM_length]; exact hl, fun r hr => ?_⟩
  obtain ⟨q, hq, rfl⟩ := List.mem_map.1 hr
  rw [Poly.up_length, (h q hq).1]; exact hc

theorem spec_l2Own_l0 (m : List (List Int)) (hm : m.length ≤ 1048576) (hr : ∀ r ∈ m, r.length ≤ 1048576) : ∀ (d i : Nat), i + d = m.length → Ev (fun k => spec_l2Own.l0 k (m.take i) m (m.length : Int) (i : Int)) m := by
  intro d
  induction d with
  | zero =>
    intro i hi
    obtain rfl : i = m.length := by omega
    rw [List.take_length]
    exact Ev.step (f := fun _ => some m) (fun k => by rw [spec_l2Own.l0.eq_2, if_neg (by omega)]) (Ev.now _)
  | succ d ih =>
    intro i hi
    have hlt : i < m.length := by omega
    have h1 := hr _ (List.getElem_mem hlt)
    have e : m.take i ++ [m[i]] = m.take (i + 1) := by rw [List.take_succ_eq_append_getElem hlt]
    refine Ev.step (f := fun k => spec_l2Own.l0 k (m.take (i + 1)) m (m.length : Int) ((i + 1 : Nat) : Int)) (fun k => ?_) (ih (i + 1) (by omega))
    rw [spec_l2Own.l0.eq_2, if_pos (by omega), if_pos (by omega), if_pos (by omega), Option.bind_some, rdL_nat m i hlt, List.nil_append, if_pos (by simp only [List.length_nil]; omega), if_pos (by rw [List.length_take]; omega), e, wrap_succ i (by omega)]
theorem spec_l2Own_ev (m : List (List Int)) (hm : m.length ≤ 1048576) (hr : ∀ r ∈ m, r.length ≤ 1048576) : Ev (fun k => spec_l2Own.f k m) m := spec_l2Own_l0 m hm hr m.length 0 (by omega)

/-- Are numbers of data and parity pieces as said? -/
def isC (a b : Int) : Bool := decide (1 ≤ a ∧ a ≤ 6) && decide (1 ≤ b ∧ b ≤ 4)
theorem isC_bd {a b : Int} (h : isC a b = true) : (1 ≤ a ∧ a ≤ 6) ∧ (1 ≤ b ∧ b ≤ 4) := by simpa [isC] using h

theorem spec_l3Size_eq (a b : Int) : spec_l3Size.f a b = some (isC a b) := by
  unfold spec_l3Size.f isC
  simp only [spec_l1In_eq, Option.bind_some]
  cases decide (1 ≤ a ∧ a ≤ 6) <;> rfl

/-- Pieces, all as long. -/
def areP (m : List (List Int)) : Bool := decide ((m.getD 0 []).length ≤ 32) && areR (m.getD 0 []).length m
theorem areP_up {m : List (List Int)} (h : areP m = true) : ∃ c n, m = upM n ∧ Mat.MB' c n ∧ (m.getD 0 []).length = c ∧ c ≤ 32 := by
  simp only [areP, Bool.and_eq_true, decide_eq_true_eq] at h
  obtain ⟨n, hn, hB⟩ := areR_up h.2
  exact ⟨_, n, hn, hB, rfl, h.1⟩
theorem up_areP {c : Nat} {n : List (List Nat)} (h : Mat.MB' c n) (hc : c ≤ 32) (hn : 0 < n.length) : areP (upM n) = true := by
  have e : ((upM n).getD 0 []).length = c := by rw [upM_getD, Poly.up_length]; exact (h.get hn).1
  unfold areP
  rw [e, up_areR h, decide_eq_true hc]; rfl
theorem areP_split {c : Nat} : ∀ (m : List (List Int)), (m.all fun r => decide (r.length = c) && (decide (r.length ≤ 32) && r.all isB)) = ((m.isEmpty || decide (c ≤ 32)) && areR c m)
  | [] => by simp [areR]
  | r :: m => by
    have ih := areP_split (c := c) m
    simp only [areR, List.all_cons, List.isEmpty_cons, Bool.false_or] at ih ⊢
    rw [ih]
    by_cases h1 : r.length = c
    · rw [h1]
      cases decide (c ≤ 32) <;> cases m.isEmpty <;> simp
    · rw [decide_eq_false h1]; simp

theorem spec_l3Pieces_l0 (m : List (List Int)) (a : Int) (hl : m.length ≤ 140737488351232) (hr : ∀ r ∈ m, r.length ≤ 140737488351232) : ∀ d i : Nat, i + d = m.length →
    Ev (fun k => spec_l3Pieces.l0 k m a m (m.length : Int) (i : Int)) (((m.drop i).all fun r => decide (r.length = (m.getD 0 []).length) && (decide (r.length ≤ 32) && r.all isB)) && decide ((m.length : Int) = a)) := by
  intro d
  induction d with
  | zero =>
    intro i hi
    obtain rfl : i = m.length := by omega
    rw [List.drop_length, List.all_nil, Bool.true_and]
    refine Ev.step (f := fun _ => some (decide ((m.length : Int) = a))) (fun k => ?_) (Ev.now _)
    rw [spec_l3Pieces.l0.eq_2, if_neg (by omega)]
    by_cases h : (m.length : Int) = a
    · rw [decide_eq_true h, h]; simp
    · rw [decide_eq_false h, beq_eq_false_iff_ne.mpr h]
  | succ d ih =>
    intro i hi
    have hlt : i < m.length := by omega
    have hz : rd_L1 m 0 = m.getD 0 [] := rfl
    rw [List.drop_eq_getElem_cons hlt, List.all_cons]
    have E := spec_l1All_ev m[i] (hr _ (List.getElem_mem hlt))
    by_cases h1 : m[i].length = (m.getD 0 []).length
    · rw [decide_eq_true h1, Bool.true_and]
      by_cases h2 : m[i].length ≤ 32
      · rw [decide_eq_true h2, Bool.true_and]
        refine Ev.step (f := fun k => (spec_l1All.f k m[i]).bind fun t => if t = true then spec_l3Pieces.l0 k m a m (m.length : Int) ((i + 1 : Nat) : Int) else some false) (fun k => ?_) (Ev.bind (f := fun k t => if t = true then spec_l3Pieces.l0 k m a m (m.length : Int) ((i + 1 : Nat) : Int) else some false) E ?_)
        · rw [spec_l3Pieces.l0.eq_2, if_pos (by omega), if_pos (by omega), if_pos (by omega), if_pos (by omega), rdL_nat m i hlt, hz, if_pos (by omega), if_neg (by omega), wrap_succ i (by omega)]
        · cases m[i].all isB
          · rw [Bool.false_and, Bool.false_and]; exact Ev.now _
          · rw [Bool.true_and]
            simp only [if_true]
            exact ih (i + 1) (by omega)
      · rw [decide_eq_false h2, Bool.false_and, Bool.false_and, Bool.false_and]
        refine Ev.step (f := fun _ => some false) (fun k => ?_) (Ev.now _)
        rw [spec_l3Pieces.l0.eq_2, if_pos (by omega), if_pos (by omega), if_pos (by omega), if_pos (by omega), rdL_nat m i hlt, hz, if_pos (by omega), if_pos (by omega)]
    · rw [decide_eq_false h1, Bool.false_and, Bool.false_and, Bool.false_and]
      refine Ev.step (f := fun _ => some false) (fun k => ?_) (Ev.now _)
      rw [spec_l3Pieces.l0.eq_2, if_pos (by omega), if_pos (by omega), if_pos (by omega), if_pos (by omega), rdL_nat m i hlt, hz, if_neg (by omega)]
theorem spec_l3Pieces_ev (m : List (List Int)) (a : Int) (hl : m.length ≤ 140737488351232) (hr : ∀ r ∈ m, r.length ≤ 140737488351232) : Ev (fun k => spec_l3Pieces.f k m a) (areP m && decide ((m.length : Int) = a)) := by
  have := spec_l3Pieces_l0 m a hl hr m.length 0 (by omega)
  rw [List.drop_zero, areP_split] at this
  have e : ((m.isEmpty || decide ((m.getD 0 []).length ≤ 32)) && areR (m.getD 0 []).length m) = areP m := by
    unfold areP
    cases m with
    | nil => simp [areR]
    | cons r m => rfl
  rw [e] at this
  exact this

/-- The first i rows of the unit matrix of n columns. -/
def idR (n i : Nat) : List Int := (List.replicate n (0 : Int)).set i 1
def idL (n i : Nat) : List (List Int) := (List.range i).map (idR n)
theorem idL_length (n i : Nat) : (idL n i).length = i := by simp [idL]
theorem idL_succ (n i : Nat) : idL n (i + 1) = idL n i ++ [idR n i] := by simp [idL, List.range_succ]
theorem idR_length (n i : Nat) : (idR n i).length = n := by simp [idR]
theorem idL_rows {n i : Nat} : ∀ r ∈ idL n i, r.length = n := fun r h => by
  obtain ⟨j, _, rfl⟩ := List.mem_map.1 h
  exact idR_length n j
def identV (a : Int) : List (List Int) × Bool := if 1 ≤ a ∧ a ≤ 8 then (idL a.toNat a.toNat, true) else ([], false)

theorem spec_l2Identity_l0 (n : Nat) (hn : n ≤ 1000) : ∀ d i : Nat, i + d = n → Ev (fun k => spec_l2Identity.l0 k (n : Int) (idL n i) (i : Int)) (idL n n) := by
  intro d
  induction d with
  | zero =>
    intro i hi
    obtain rfl : i = n := by omega
    exact Ev.step (f := fun _ => some (idL i i)) (fun k => by rw [spec_l2Identity.l0.eq_2, if_neg (by omega)]) (Ev.now _)
  | succ d ih =>
    intro i hi
    refine Ev.step (f := fun k => spec_l2Identity.l0 k (n : Int) (idL n (i + 1)) ((i + 1 : Nat) : Int)) (fun k => ?_) (ih (i + 1) (by omega))
    rw [spec_l2Identity.l0.eq_2, if_pos (by omega), if_pos (by omega), if_pos (by omega)]
    simp only [Option.bind_some, Int.toNat_natCast]
    rw [if_pos (by omega), if_pos (by rw [List.length_replicate]; omega), if_pos (by rw [idL_length]; omega), wrap_succ i (by omega), idL_succ]
    rfl
theorem spec_l2Identity_ev (n : Nat) (hn : n ≤ 1000) : Ev (fun k => spec_l2Identity.f k (n : Int)) (idL n n) := spec_l2Identity_l0 n hn n 0 (by omega)

theorem spec_l1Mul_l0 : ∀ (n a b o : Nat), a < 256 → o < 256 → b < 2 ^ n → b < 2 ^ 63 → Ev (fun k => spec_l1Mul.l0 k (a : Int) (b : Int) (o : Int)) ((Gf.gmA n a b o : Nat) : Int) := by
  have stop : ∀ a o : Nat, Ev (fun k => spec_l1Mul.l0 k (a : Int) ((0 : Nat) : Int) (o : Int)) ((o : Nat) : Int) := fun a o =>
    Ev.step (f := fun _ => some ((o : Nat) : Int)) (fun k => by simp only [spec_l1Mul.l0]; rw [if_neg (by omega)]) (Ev.now _)
  intro n
  induction n with
  | zero =>
    intro a b o ha ho hb _
    obtain rfl : b = 0 := by simpa using hb
    exact stop a o
  | succ n ih =>
    intro a b o ha ho hb hb63
    by_cases h0 : b = 0
    · subst h0
      rw [Gf.gmA_zero]
      exact stop a o
    · have e1 : wrap64 ((a : Int) * 2) = ((a * 2 : Nat) : Int) := by rw [wrap_id (by omega) (by omega)]; omega
      have e2 : Go.bits .xor .i64 ((a * 2 : Nat) : Int) 285 = (((a * 2) ^^^ 285 : Nat) : Int) := xor_nat (a := a * 2) (b := 285) (by omega) (by decide)
      have e3 : Go.bits .xor .i64 (o : Int) (a : Int) = ((o ^^^ a : Nat) : Int) := xor_nat (by omega) (by omega)
      have e4 := and_one (a := b) hb63
      refine Ev.step (f := fun k => spec_l1Mul.l0 k ((Gf.xt a : Nat) : Int) ((b / 2 : Nat) : Int) (((if b % 2 = 1 then o ^^^ a else o) : Nat) : Int)) (fun k => ?_) (ih _ _ _ (Gf.xt_lt a ha) ?_ (by rw [Nat.pow_succ] at hb; omega) (by omega))
      · simp only [spec_l1Mul.l0, e1, e2, e3, e4, half_nat, Gf.xt]
        rw [if_pos (show (b : Int) > 0 by omega)]
        by_cases h1 : b % 2 = 1 <;> by_cases h2 : 255 < a * 2
        · rw [if_pos (show ((b % 2 : Nat) : Int) = 1 by omega), if_pos h1, if_pos (by omega), if_pos h2]
        · rw [if_pos (show ((b % 2 : Nat) : Int) = 1 by omega), if_pos h1, if_neg (by omega), if_neg h2]
        · rw [if_neg (show ¬ ((b % 2 : Nat) : Int) = 1 by omega), if_neg h1, if_pos (by omega), if_pos h2]
        · rw [if_neg (show ¬ ((b % 2 : Nat) : Int) = 1 by omega), if_neg h1, if_neg (by omega), if_neg h2]
      · split
        · exact Gf.xor_byte ho ha
        · exact ho
theorem spec_l1Mul_ev (a b : Nat) (ha : a < 256) (hb : b < 256) : Ev (fun k => spec_l1Mul.f k (a : Int) (b : Int)) ((Gf.gm a b : Nat) : Int) :=
  spec_l1Mul_l0 8 a b 0 ha (by decide) hb (by omega)

theorem spec_l1Pow_l0 : ∀ (f a n o : Nat), a < 256 → o < 256 → n < 2 ^ f → n < 2 ^ 63 → Ev (fun k => spec_l1Pow.l0 k (a : Int) (n : Int) (o : Int)) ((Gf.pwA f a n o : Nat) : Int) := by
  have stop : ∀ a o : Nat, Ev (fun k => spec_l1Pow.l0 k (a : Int) ((0 : Nat) : Int) (o : Int)) ((o : Nat) : Int) := fun a o =>
    Ev.step (f := fun _ => some ((o : Nat) : Int)) (fun k => by simp only [spec_l1Pow.l0]; rw [if_neg (by omega)]) (Ev.now _)
  have z : ∀ f a o, Gf.pwA f a 0 o = o := by
    intro f
    induction f with
    | zero => intro a o; rfl
    | succ f ih => intro a o; exact ih _ _
  intro f
  induction f with
  | zero =>
    intro a n o ha ho hn _
    obtain rfl : n = 0 := by simpa using hn
    exact stop a o
  | succ f ih =>
    intro a n o ha ho hn hn63
    by_cases h0 : n = 0
    · subst h0
      rw [z]
      exact stop a o
    · have e4 := and_one (a := n) hn63
      have hsq := Gf.gm_lt a ha
      by_cases h1 : n % 2 = 1
      · refine Ev.step (f := fun k => (spec_l1Mul.f k (o : Int) (a : Int)).bind fun t => (spec_l1Mul.f k (a : Int) (a : Int)).bind fun u => spec_l1Pow.l0 k u ((n / 2 : Nat) : Int) t) (fun k => ?_) ?_
        · simp only [spec_l1Pow.l0, e4, half_nat]
          rw [if_pos (show (n : Int) > 0 by omega), if_pos (show ((n % 2 : Nat) : Int) = 1 by omega)]
        · have := ih (Gf.gm a a) (n / 2) (Gf.gm o a) hsq (Gf.gm_lt a ho) (by rw [Nat.pow_succ] at hn; omega) (by omega)
          show Ev _ ((Gf.pwA f (Gf.gm a a) (n / 2) (if n % 2 = 1 then Gf.gm o a else o) : Nat) : Int)
          rw [if_pos h1]
          exact Ev.bind (f := fun k t => (spec_l1Mul.f k (a : Int) (a : Int)).bind fun u => spec_l1Pow.l0 k u ((n / 2 : Nat) : Int) t) (spec_l1Mul_ev o a ho ha) (Ev.bind (f := fun k u => spec_l1Pow.l0 k u ((n / 2 : Nat) : Int) ((Gf.gm o a : Nat) : Int)) (spec_l1Mul_ev a a ha ha) this)
      · refine Ev.step (f := fun k => (spec_l1Mul.f k (a : Int) (a : Int)).bind fun u => spec_l1Pow.l0 k u ((n / 2 : Nat) : Int) (o : Int)) (fun k => ?_) ?_
        · simp only [spec_l1Pow.l0, e4, half_nat]
          rw [if_pos (show (n : Int) > 0 by omega), if_neg (show ¬ ((n % 2 : Nat) : Int) = 1 by omega)]
        · have := ih (Gf.gm a a) (n / 2) o hsq ho (by rw [Nat.pow_succ] at hn; omega) (by omega)
          show Ev _ ((Gf.pwA f (Gf.gm a a) (n / 2) (if n % 2 = 1 then Gf.gm o a else o) : Nat) : Int)
          rw [if_neg h1]
          exact Ev.bind (f := fun k u => spec_l1Pow.l0 k u ((n / 2 : Nat) : Int) (o : Int)) (spec_l1Mul_ev a a ha ha) this
theorem spec_l1Pow_ev (a n : Nat) (ha : a < 256) (hn : n < 2 ^ 62) : Ev (fun k => spec_l1Pow.f k (a : Int) (n : Int)) ((Gf.pw a n : Nat) : Int) := by
  have := spec_l1Pow_l0 62 a n 1 ha (by decide) hn (by omega)
  rw [Gf.pwA_eq 62 a n 1 ha (by decide) hn, Gf.one_gm _ (Gf.pw_lt n)] at this
  exact this

theorem spec_l1Div_ev (a b : Nat) (ha : a < 256) (hb : b < 256) : Ev (fun k => spec_l1Div.f k (a : Int) (b : Int)) ((Gf.gm a (Gf.gi b) : Nat) : Int) := by
  unfold spec_l1Div.f
  refine Ev.bind (f := fun k t => (spec_l1Mul.f k (a : Int) t).bind fun u => some u) (spec_l1Pow_ev b 254 hb (by decide)) ?_
  exact Ev.bind (f := fun _ u => some u) (spec_l1Mul_ev a (Gf.gi b) ha (Gf.gi_lt b)) (Ev.now _)

/-- The inverses of the sums. -/
def cauchyR (a : Nat) (Y : List Nat) : List Nat := Y.map fun b => Gf.gi (a ^^^ b)
def cauchyM (X Y : List Nat) : List (List Nat) := X.map fun a => cauchyR a Y
theorem cauchyR_bytes (a : Nat) (Y : List Nat) : Poly.AllB (cauchyR a Y) := fun x hx => by
  obtain ⟨b, _, rfl⟩ := List.mem_map.1 hx
  exact Gf.gi_lt _
theorem cauchyM_MB (X Y : List Nat) : Mat.MB' Y.length (cauchyM X Y) := fun r hr => by
  obtain ⟨a, _, rfl⟩ := List.mem_map.1 hr
  exact ⟨by simp [cauchyR], cauchyR_bytes a Y⟩
theorem cauchyM_length (X Y : List Nat) : (cauchyM X Y).length = X.length := by simp [cauchyM]
theorem drop_getD (l : List Nat) (i : Nat) (h : i < l.length) : l.drop i = l.getD i 0 :: l.drop (i + 1) := by
  rw [List.drop_eq_getElem_cons h, List.getD_eq_getElem?_getD, List.getElem?_eq_getElem h]; rfl

theorem spec_l2Cauchy_l0 (X Y : List Nat) (hX : Poly.AllB X) (hY : Poly.AllB Y) (hXl : X.length ≤ 1000) (hYl : Y.length ≤ 1000) : ∀ (d i : Nat) (out : List (List Nat)), i + d = X.length → out.length = i →
    Ev (fun k => spec_l2Cauchy.l0 k (Poly.up Y) (upM out) (Poly.up X) (X.length : Int) (i : Int)) (upM (out ++ cauchyM (X.drop i) Y)) := by
  intro d
  induction d with
  | zero =>
    intro i out hi hol
    obtain rfl : i = X.length := by omega
    have e : out ++ cauchyM (X.drop X.length) Y = out := by rw [List.drop_length]; simp [cauchyM]
    rw [e]
    exact Ev.step (f := fun _ => some (upM out)) (fun k => by rw [spec_l2Cauchy.l0.eq_2, if_neg (by omega)]) (Ev.now _)
  | succ d ih =>
    intro i out hi hol
    have hlt : i < X.length := by omega
    have ha : X.getD i 0 < 256 := hX.get i
    rw [drop_getD X i hlt]
    generalize hA : X.getD i 0 = a at ha
    have row : ∀ (e j : Nat) (acc : List Nat), j + e = Y.length → acc.length = j →
        Ev (fun k => spec_l2Cauchy.l1 k (Poly.up Y) (upM out) (a : Int) (Poly.up acc) (Poly.up X) (X.length : Int) (i : Int) (Poly.up Y) (Y.length : Int) (j : Int)) (upM (out ++ (acc ++ cauchyR a (Y.drop j)) :: cauchyM (X.drop (i + 1)) Y)) := by
      intro e
      induction e with
      | zero =>
        intro j acc hj hl
        obtain rfl : j = Y.length := by omega
        have e : acc ++ cauchyR a (Y.drop Y.length) = acc := by rw [List.drop_length]; simp [cauchyR]
        rw [e]
        refine Ev.step (f := fun k => spec_l2Cauchy.l0 k (Poly.up Y) (upM (out ++ [acc])) (Poly.up X) (X.length : Int) ((i + 1 : Nat) : Int)) (fun k => ?_) ?_
        · rw [spec_l2Cauchy.l1.eq_2, if_neg (by omega), if_pos (by rw [upM_length]; omega), upM_snoc, wrap_succ i (by omega)]
        · have := ih (i + 1) (out ++ [acc]) (by omega) (by simp [hol])
          rwa [List.append_assoc] at this
      | succ e ihe =>
        intro j acc hj hl
        have hjY : j < Y.length := by omega
        have hb : Y.getD j 0 < 256 := hY.get j
        have hx := xor_up ha hb
        have hab := Gf.xor_byte ha hb
        have e1 : cauchyR a (Y.drop j) = Gf.gi (a ^^^ Y.getD j 0) :: cauchyR a (Y.drop (j + 1)) := by rw [drop_getD Y j hjY]; rfl
        have e2 : Gf.gm 1 (Gf.gi (a ^^^ Y.getD j 0)) = Gf.gi (a ^^^ Y.getD j 0) := Gf.one_gm _ (Gf.gi_lt _)
        rw [e1]
        refine Ev.step (f := fun k => (spec_l1Div.f k ((1 : Nat) : Int) ((a ^^^ Y.getD j 0 : Nat) : Int)).bind fun t => if (Poly.up acc).length < 17592186044416 then spec_l2Cauchy.l1 k (Poly.up Y) (upM out) (a : Int) (Poly.up acc ++ [t]) (Poly.up X) (X.length : Int) (i : Int) (Poly.up Y) (Y.length : Int) ((j + 1 : Nat) : Int) else none) (fun k => ?_) ?_
        · rw [spec_l2Cauchy.l1.eq_2, if_pos (by omega), if_pos (by omega), if_pos (by rw [Poly.up_length]; omega), Poly.rd_up, hx, wrap_succ j (by omega)]; rfl
        · refine Ev.bind (f := fun k t => if (Poly.up acc).length < 17592186044416 then spec_l2Cauchy.l1 k (Poly.up Y) (upM out) (a : Int) (Poly.up acc ++ [t]) (Poly.up X) (X.length : Int) (i : Int) (Poly.up Y) (Y.length : Int) ((j + 1 : Nat) : Int) else none) (spec_l1Div_ev 1 _ (by decide) hab) ?_
          simp only [if_pos (show (Poly.up acc).length < 17592186044416 by rw [Poly.up_length]; omega), e2, Poly.up_snoc]
          have := ihe (j + 1) (acc ++ [Gf.gi (a ^^^ Y.getD j 0)]) (by omega) (by simp [hl])
          rwa [List.append_assoc] at this
    have e0 : out ++ cauchyM (a :: X.drop (i + 1)) Y = out ++ ([] ++ cauchyR a (Y.drop 0)) :: cauchyM (X.drop (i + 1)) Y := by rfl
    rw [e0]
    refine Ev.step (f := fun k => spec_l2Cauchy.l1 k (Poly.up Y) (upM out) (a : Int) (Poly.up []) (Poly.up X) (X.length : Int) (i : Int) (Poly.up Y) (Y.length : Int) 0) (fun k => ?_) (row Y.length 0 [] (by omega) rfl)
    rw [spec_l2Cauchy.l0.eq_2, if_pos (by omega), if_pos (by omega), if_pos (by rw [Poly.up_length]; omega), Poly.rd_up, hA, Poly.up_length]; rfl
theorem spec_l2Cauchy_ev (X Y : List Nat) (hX : Poly.AllB X) (hY : Poly.AllB Y) (hXl : X.length ≤ 1000) (hYl : Y.length ≤ 1000) : Ev (fun k => spec_l2Cauchy.f k (Poly.up X) (Poly.up Y)) (upM (cauchyM X Y)) := by
  unfold spec_l2Cauchy.f
  rw [Poly.up_length]
  exact spec_l2Cauchy_l0 X Y hX hY hXl hYl X.length 0 [] (by omega) rfl

theorem idL_up (n : Nat) : idL n n = upM (Mat.idM n) := by
  unfold idL idR upM Mat.idM
  rw [List.map_map]
  refine List.map_congr_left fun i _ => ?_
  show _ = Poly.up ((List.replicate n 0).set i 1)
  rw [← Poly.up_set, ← Poly.up_zeros]; rfl

/-- The matrix of a code. -/
def rangeN (a n : Nat) : List Nat := (List.range n).map fun i => a + i
theorem rangeN_length (a n : Nat) : (rangeN a n).length = n := by simp [rangeN]
theorem rangeN_succ (a n : Nat) : rangeN a (n + 1) = rangeN a n ++ [a + n] := by simp [rangeN, List.range_succ]
theorem rangeN_bytes {a n : Nat} (h : a + n ≤ 256) : Poly.AllB (rangeN a n) := fun x hx => by
  obtain ⟨i, hi, rfl⟩ := List.mem_map.1 hx
  have := List.mem_range.1 hi
  omega
theorem rangeN_getD {a n i : Nat} (h : i < n) : (rangeN a n).getD i 0 = a + i := by
  unfold rangeN
  rw [List.getD_eq_getElem?_getD, List.getElem?_map, List.getElem?_range h]; rfl
def codeM (d p : Nat) : List (List Nat) := Mat.idM d ++ cauchyM (rangeN 0 p) (rangeN p d)
theorem codeM_MB (d p : Nat) : Mat.MB' d (codeM d p) := fun r hr => by
  rcases List.mem_append.1 hr with h | h
  · exact Mat.idM_MB d r h
  · have := cauchyM_MB (rangeN 0 p) (rangeN p d) r h
    rwa [rangeN_length] at this
theorem codeM_length (d p : Nat) : (codeM d p).length = d + p := by unfold codeM; rw [List.length_append, Mat.idM_length, cauchyM_length, rangeN_length]
def codeV (a b : Int) : List (List Int) × Bool := if isC a b then (upM (codeM a.toNat b.toNat), true) else ([], false)
theorem codeV_small (a b : Int) : (codeV a b).1.length ≤ 10 ∧ ∀ r ∈ (codeV a b).1, r.length ≤ 10 := by
  unfold codeV
  split
  · rename_i h
    have := isC_bd h
    exact upM_small (codeM_MB _ _) (by rw [codeM_length]; omega) (by omega)
  · exact ⟨by simp, fun r hr => by cases hr⟩

theorem spec_l3Matrix_l1 (d p : Nat) (hd : d ≤ 20) (hp : p ≤ 20) : ∀ (u j : Nat), j + u = d → Ev (fun k => spec_l3Matrix.l1 k (d : Int) (p : Int) (Poly.up (rangeN 0 p)) (Poly.up (rangeN p j)) (j : Int)) (upM (codeM d p)) := by
  intro u
  induction u with
  | zero =>
    intro j hj
    obtain rfl : j = d := by omega
    have E := spec_l2Identity_ev j (by omega)
    have E2 := spec_l2Cauchy_ev (rangeN 0 p) (rangeN p j) (rangeN_bytes (by omega)) (rangeN_bytes (by omega)) (by rw [rangeN_length]; omega) (by rw [rangeN_length]; omega)
    rw [idL_up] at E
    refine Ev.step (f := fun k => (spec_l2Identity.f k (j : Int)).bind fun s => (spec_l2Cauchy.f k (Poly.up (rangeN 0 p)) (Poly.up (rangeN p j))).bind fun t => if s.length + t.length < 5864062014805 then some (s ++ t) else none) (fun k => ?_) ?_
    · rw [spec_l3Matrix.l1.eq_2, if_neg (by omega)]
    · refine Ev.bind (f := fun k s => (spec_l2Cauchy.f k (Poly.up (rangeN 0 p)) (Poly.up (rangeN p j))).bind fun t => if s.length + t.length < 5864062014805 then some (s ++ t) else none) E (Ev.bind (f := fun _ t => if (upM (Mat.idM j)).length + t.length < 5864062014805 then some (upM (Mat.idM j) ++ t) else none) E2 ?_)
      simp only [upM_length, Mat.idM_length, cauchyM_length, rangeN_length, if_pos (show j + p < 5864062014805 by omega), upM_append]
      exact Ev.now _
  | succ u ih =>
    intro j hj
    refine Ev.step (f := fun k => spec_l3Matrix.l1 k (d : Int) (p : Int) (Poly.up (rangeN 0 p)) (Poly.up (rangeN p (j + 1))) ((j + 1 : Nat) : Int)) (fun k => ?_) (ih (j + 1) (by omega))
    rw [spec_l3Matrix.l1.eq_2, if_pos (by omega), if_pos (by rw [Poly.up_length, rangeN_length]; omega), wrap_add p j (by omega), Poly.up_snoc, ← rangeN_succ, wrap_succ j (by omega)]
theorem spec_l3Matrix_l0 (d p : Nat) (hd : d ≤ 20) (hp : p ≤ 20) : ∀ (u j : Nat), j + u = p → Ev (fun k => spec_l3Matrix.l0 k (d : Int) (p : Int) (Poly.up (rangeN 0 j)) (j : Int)) (upM (codeM d p)) := by
  intro u
  induction u with
  | zero =>
    intro j hj
    obtain rfl : j = p := by omega
    refine Ev.step (f := fun k => spec_l3Matrix.l1 k (d : Int) (j : Int) (Poly.up (rangeN 0 j)) (Poly.up (rangeN j 0)) ((0 : Nat) : Int)) (fun k => ?_) (spec_l3Matrix_l1 d j hd hp d 0 (by omega))
    rw [spec_l3Matrix.l0.eq_2, if_neg (by omega)]; rfl
  | succ u ih =>
    intro j hj
    refine Ev.step (f := fun k => spec_l3Matrix.l0 k (d : Int) (p : Int) (Poly.up (rangeN 0 (j + 1))) ((j + 1 : Nat) : Int)) (fun k => ?_) (ih (j + 1) (by omega))
    have e : Poly.up (rangeN 0 j) ++ [(j : Int)] = Poly.up (rangeN 0 (j + 1)) := by rw [rangeN_succ, Poly.up_snoc, Nat.zero_add]
    rw [spec_l3Matrix.l0.eq_2, if_pos (by omega), if_pos (by rw [Poly.up_length, rangeN_length]; omega), e, wrap_succ j (by omega)]
theorem spec_l3Matrix_ev (d p : Nat) (hd : d ≤ 20) (hp : p ≤ 20) : Ev (fun k => spec_l3Matrix.f k (d : Int) (p : Int)) (upM (codeM d p)) := spec_l3Matrix_l0 d p hd hp p 0 (by omega)

theorem spec_l2Add_l0 (r q : List Nat) (f : Nat) (hf : f < 256) (hr : Poly.AllB r) (hq : Poly.AllB q) (hl : r.length = q.length) (hb : r.length ≤ 1000) : ∀ (d i : Nat), i + d = q.length →
    Ev (fun k => spec_l2Add.l0 k (Poly.up (Mat.raddTo f r q i)) (f : Int) (Poly.up q) (q.length : Int) (i : Int)) (Poly.up (Mat.radd f r q)) := by
  intro d
  induction d with
  | zero =>
    intro i hi
    obtain rfl : i = q.length := by omega
    rw [← hl, Mat.raddTo_all hl]
    exact Ev.step (f := fun _ => some (Poly.up (Mat.radd f r q))) (fun k => by rw [spec_l2Add.l0.eq_2, if_neg (by omega)]) (Ev.now _)
  | succ d ih =>
    intro i hi
    have hir : i < r.length := by omega
    have hqi : q.getD i 0 < 256 := Poly.AllB.get hq i
    have hx := xor_up (Poly.AllB.get hr i) (Gf.gm_lt (q.getD i 0) hf)
    have hc : Gf.gm (q.getD i 0) f = Gf.gm f (q.getD i 0) := Gf.gm_comm hqi hf
    refine Ev.step (f := fun k => (spec_l1Mul.f k ((q.getD i 0 : Nat) : Int) (f : Int)).bind fun t => spec_l2Add.l0 k ((Poly.up (Mat.raddTo f r q i)).set i (Go.bits .xor .i64 ((r.getD i 0 : Nat) : Int) t)) (f : Int) (Poly.up q) (q.length : Int) ((i + 1 : Nat) : Int)) (fun k => ?_) ?_
    · rw [spec_l2Add.l0.eq_2, if_pos (by omega), if_pos (by omega), if_pos (by rw [Poly.up_length]; omega), if_pos (by rw [Poly.up_length, Mat.raddTo_length hl]; omega), Poly.rd_up, Poly.rd_up, Mat.raddTo_at hl hir, wrap_succ i (by omega), Int.toNat_natCast]
    · refine Ev.bind (f := fun k t => spec_l2Add.l0 k ((Poly.up (Mat.raddTo f r q i)).set i (Go.bits .xor .i64 ((r.getD i 0 : Nat) : Int) t)) (f : Int) (Poly.up q) (q.length : Int) ((i + 1 : Nat) : Int)) (spec_l1Mul_ev _ _ hqi hf) ?_
      simp only [hc, hx, Poly.up_set, Mat.raddTo_succ hl hir]
      exact ih (i + 1) (by omega)
theorem spec_l2Add_ev (r q : List Nat) (f : Nat) (hf : f < 256) (hr : Poly.AllB r) (hq : Poly.AllB q) (hl : r.length = q.length) (hb : r.length ≤ 1000) : Ev (fun k => spec_l2Add.f k (Poly.up r) (Poly.up q) (f : Int)) (Poly.up (Mat.radd f r q)) := by
  unfold spec_l2Add.f
  have := spec_l2Add_l0 r q f hf hr hq hl hb q.length 0 (by omega)
  rw [Mat.raddTo_zero] at this
  rw [Poly.up_length]
  exact this

theorem impl_mul_l0 : ∀ (n a b o : Nat), a < 256 → o < 256 → b < 2 ^ n → b < 2 ^ 63 → Ev (fun k => impl_mul.l0 k (a : Int) (b : Int) (o : Int)) ((Gf.gmA n a b o : Nat) : Int) := by
  have stop : ∀ a o : Nat, Ev (fun k => impl_mul.l0 k (a : Int) ((0 : Nat) : Int) (o : Int)) ((o : Nat) : Int) := fun a o =>
    Ev.step (f := fun _ => some ((o : Nat) : Int)) (fun k => by simp only [impl_mul.l0]; rw [if_neg (by omega)]) (Ev.now _)
  intro n
  induction n with
  | zero =>
    intro a b o ha ho hb _
    obtain rfl : b = 0 := by simpa using hb
    exact stop a o
  | succ n ih =>
    intro a b o ha ho hb hb63
    by_cases h0 : b = 0
    · subst h0
      rw [Gf.gmA_zero]
      exact stop a o
    · have e1 : wrap64 ((a : Int) * 2) = ((a * 2 : Nat) : Int) := by rw [wrap_id (by omega) (by omega)]; omega
      have e2 : Go.bits .xor .i64 ((a * 2 : Nat) : Int) 285 = (((a * 2) ^^^ 285 : Nat) : Int) := xor_nat (a := a * 2) (b := 285) (by omega) (by decide)
      have e3 : Go.bits .xor .i64 (o : Int) (a : Int) = ((o ^^^ a : Nat) : Int) := xor_nat (by omega) (by omega)
      have e4 := and_one (a := b) hb63
      refine Ev.step (f := fun k => impl_mul.l0 k ((Gf.xt a : Nat) : Int) ((b / 2 : Nat) : Int) (((if b % 2 = 1 then o ^^^ a else o) : Nat) : Int)) (fun k => ?_) (ih _ _ _ (Gf.xt_lt a ha) ?_ (by rw [Nat.pow_succ] at hb; omega) (by omega))
      · simp only [impl_mul.l0, e1, e2, e3, e4, half_nat, Gf.xt]
        rw [if_pos (show (b : Int) > 0 by omega)]
        by_cases h1 : b % 2 = 1 <;> by_cases h2 : 255 < a * 2
        · rw [if_pos (show ((b % 2 : Nat) : Int) = 1 by omega), if_pos h1, if_pos (by omega), if_pos h2]
        · rw [if_pos (show ((b % 2 : Nat) : Int) = 1 by omega), if_pos h1, if_neg (by omega), if_neg h2]
        · rw [if_neg (show ¬ ((b % 2 : Nat) : Int) = 1 by omega), if_neg h1, if_pos (by omega), if_pos h2]
        · rw [if_neg (show ¬ ((b % 2 : Nat) : Int) = 1 by omega), if_neg h1, if_neg (by omega), if_neg h2]
      · split
        · exact Gf.xor_byte ho ha
        · exact ho
theorem impl_mul_ev (a b : Nat) (ha : a < 256) (hb : b < 256) : Ev (fun k => impl_mul.f k (a : Int) (b : Int)) ((Gf.gm a b : Nat) : Int) :=
  impl_mul_l0 8 a b 0 ha (by decide) hb (by omega)

theorem impl_areGf_eq (l : List Int) : impl_areGf.f l = some (l.all isB) := by
  unfold impl_areGf.f
  have e : impl_areGf.bad = fun n => !isB n := by
    funext n
    simp only [impl_areGf.bad, isB]
  rw [e, List.all_eq_not_any_not]



theorem impl_isCode_eq (a b : Int) : impl_isCode.f a b = some (isC a b) := by
  unfold impl_isCode.f isC
  simp only [impl_within_eq, Option.bind_some]
  cases decide (1 ≤ a ∧ a ≤ 6) <;> rfl

theorem impl_arePieces_eq (m : List (List Int)) (a : Int) (hm : 0 < m.length) : impl_arePieces.f m a = some (areP m && decide ((m.length : Int) = a)) := by
  unfold impl_arePieces.f impl_areLong.f areP
  have e : impl_areGf.bad = fun n => !isB n := by
    funext n
    simp only [impl_areGf.bad, isB]
  have e2 : (m.all fun r => decide (r.length = (m.getD 0 []).length) && r.all isB) = ((!m.any (impl_areLong.bad m)) && !(m.any fun r => r.any impl_areGf.bad)) := by
    have h1 : impl_areLong.bad m = fun r => !decide (r.length = (m.getD 0 []).length) := by funext r; rfl
    rw [h1, e]
    have h2 : (fun r : List Int => r.any fun n => !isB n) = fun r => !r.all isB := by funext r; rw [List.all_eq_not_any_not, Bool.not_not]
    rw [h2, ← List.all_eq_not_any_not, ← List.all_eq_not_any_not]
    generalize (m.getD 0 []).length = c
    induction m with
    | nil => rfl
    | cons r m ih =>
      simp only [List.all_cons]
      by_cases hm0 : 0 < m.length
      · rw [ih hm0 rfl]
        cases decide (r.length = c) <;> cases r.all isB <;> simp
      · obtain rfl : m = [] := List.length_eq_zero_iff.1 (by omega)
        simp
  unfold areR
  rw [e2]
  by_cases h1 : (m.length : Int) = a
  · rw [if_pos h1, if_pos hm, Option.bind_some, decide_eq_true h1, Bool.and_true]
    cases decide ((m.getD 0 []).length ≤ 32) <;> cases m.any (impl_areLong.bad m) <;> simp
  · rw [if_neg h1, Option.bind_some, decide_eq_false h1, Bool.and_false]; simp

theorem impl_pow_l0 : ∀ (f a n o : Nat), a < 256 → o < 256 → n < 2 ^ f → n < 2 ^ 63 → Ev (fun k => impl_pow.l0 k (a : Int) (n : Int) (o : Int)) ((Gf.pwA f a n o : Nat) : Int) := by
  have stop : ∀ a o : Nat, Ev (fun k => impl_pow.l0 k (a : Int) ((0 : Nat) : Int) (o : Int)) ((o : Nat) : Int) := fun a o =>
    Ev.step (f := fun _ => some ((o : Nat) : Int)) (fun k => by simp only [impl_pow.l0]; rw [if_neg (by omega)]) (Ev.now _)
  have z : ∀ f a o, Gf.pwA f a 0 o = o := by
    intro f
    induction f with
    | zero => intro a o; rfl
    | succ f ih => intro a o; exact ih _ _
  intro f
  induction f with
  | zero =>
    intro a n o ha ho hn _
    obtain rfl : n = 0 := by simpa using hn
    exact stop a o
  | succ f ih =>
    intro a n o ha ho hn hn63
    by_cases h0 : n = 0
    · subst h0
      rw [z]
      exact stop a o
    · have e4 := and_one (a := n) hn63
      have hsq := Gf.gm_lt a ha
      by_cases h1 : n % 2 = 1
      · refine Ev.step (f := fun k => (impl_mul.f k (o : Int) (a : Int)).bind fun t => (impl_mul.f k (a : Int) (a : Int)).bind fun u => impl_pow.l0 k u ((n / 2 : Nat) : Int) t) (fun k => ?_) ?_
        · simp only [impl_pow.l0, e4, half_nat]
          rw [if_pos (show (n : Int) > 0 by omega), if_pos (show ((n % 2 : Nat) : Int) = 1 by omega)]
        · have := ih (Gf.gm a a) (n / 2) (Gf.gm o a) hsq (Gf.gm_lt a ho) (by rw [Nat.pow_succ] at hn; omega) (by omega)
          show Ev _ ((Gf.pwA f (Gf.gm a a) (n / 2) (if n % 2 = 1 then Gf.gm o a else o) : Nat) : Int)
          rw [if_pos h1]
          exact Ev.bind (f := fun k t => (impl_mul.f k (a : Int) (a : Int)).bind fun u => impl_pow.l0 k u ((n / 2 : Nat) : Int) t) (impl_mul_ev o a ho ha) (Ev.bind (f := fun k u => impl_pow.l0 k u ((n / 2 : Nat) : Int) ((Gf.gm o a : Nat) : Int)) (impl_mul_ev a a ha ha) this)
      · refine Ev.step (f := fun k => (impl_mul.f k (a : Int) (a : Int)).bind fun u => impl_pow.l0 k u ((n / 2 : Nat) : Int) (o : Int)) (fun k => ?_) ?_
        · simp only [impl_pow.l0, e4, half_nat]
          rw [if_pos (show (n : Int) > 0 by omega), if_neg (show ¬ ((n % 2 : Nat) : Int) = 1 by omega)]
        · have := ih (Gf.gm a a) (n / 2) o hsq ho (by rw [Nat.pow_succ] at hn; omega) (by omega)
          show Ev _ ((Gf.pwA f (Gf.gm a a) (n / 2) (if n % 2 = 1 then Gf.gm o a else o) : Nat) : Int)
          rw [if_neg h1]
          exact Ev.bind (f := fun k u => impl_pow.l0 k u ((n / 2 : Nat) : Int) (o : Int)) (impl_mul_ev a a ha ha) this
theorem impl_pow_ev (a n : Nat) (ha : a < 256) (hn : n < 2 ^ 62) : Ev (fun k => impl_pow.f k (a : Int) (n : Int)) ((Gf.pw a n : Nat) : Int) := by
  have := impl_pow_l0 62 a n 1 ha (by decide) hn (by omega)
  rw [Gf.pwA_eq 62 a n 1 ha (by decide) hn, Gf.one_gm _ (Gf.pw_lt n)] at this
  exact this

theorem impl_inverse_ev (b : Nat) (hb : b < 256) : Ev (fun k => impl_inverse.f k (b : Int)) ((Gf.gi b : Nat) : Int) := by
  unfold impl_inverse.f
  exact Ev.bind (f := fun _ u => some u) (impl_pow_ev b 254 hb (by decide)) (Ev.now _)

theorem impl_identity_l0 (n : Nat) (hn : n ≤ 1000) : ∀ d i : Nat, i + d = n → Ev (fun k => impl_identity.l0 k (n : Int) (idL n i) (n : Int) (i : Int)) (idL n n) := by
  intro d
  induction d with
  | zero =>
    intro i hi
    obtain rfl : i = n := by omega
    exact Ev.step (f := fun _ => some (idL i i)) (fun k => by rw [impl_identity.l0.eq_2, if_neg (by omega)]) (Ev.now _)
  | succ d ih =>
    intro i hi
    refine Ev.step (f := fun k => impl_identity.l0 k (n : Int) (idL n (i + 1)) (n : Int) ((i + 1 : Nat) : Int)) (fun k => ?_) (ih (i + 1) (by omega))
    rw [impl_identity.l0.eq_2, if_pos (by omega), if_pos (by omega), if_pos (by omega)]
    simp only [Option.bind_some, Int.toNat_natCast]
    rw [if_pos (by omega), if_pos (by rw [List.length_replicate]; omega), if_pos (by rw [idL_length]; omega), wrap_succ i (by omega), idL_succ]
    rfl
theorem impl_identity_ev (n : Nat) (hn : n ≤ 1000) : Ev (fun k => impl_identity.f k (n : Int)) (idL n n) := impl_identity_l0 n hn n 0 (by omega)

theorem impl_codeMatrix_l0 (d p : Nat) (hd : d ≤ 20) (hp : p ≤ 20) : ∀ (u i : Nat), i + u = p → Ev (fun k => impl_codeMatrix.l0 k (d : Int) (p : Int) (upM (Mat.idM d ++ cauchyM (rangeN 0 i) (rangeN p d))) (p : Int) (i : Int)) (upM (codeM d p)) := by
  intro u
  induction u with
  | zero =>
    intro i hi
    obtain rfl : i = p := by omega
    exact Ev.step (f := fun _ => some (upM (codeM d i))) (fun k => by rw [impl_codeMatrix.l0.eq_2, if_neg (by omega)]; rfl) (Ev.now _)
  | succ u ih =>
    intro i hi
    have row : ∀ (e j : Nat), j + e = d →
        Ev (fun k => impl_codeMatrix.l1 k (d : Int) (p : Int) (upM (Mat.idM d ++ cauchyM (rangeN 0 i) (rangeN p d))) (i : Int) (Poly.up (cauchyR i (rangeN p j))) (p : Int) (i : Int) (d : Int) (j : Int)) (upM (codeM d p)) := by
      intro e
      induction e with
      | zero =>
        intro j hj
        obtain rfl : j = d := by omega
        refine Ev.step (f := fun k => impl_codeMatrix.l0 k (j : Int) (p : Int) (upM (Mat.idM j ++ cauchyM (rangeN 0 (i + 1)) (rangeN p j))) (p : Int) ((i + 1 : Nat) : Int)) (fun k => ?_) (ih (i + 1) (by omega))
        have e1 : cauchyM (rangeN 0 i) (rangeN p j) ++ [cauchyR i (rangeN p j)] = cauchyM (rangeN 0 (i + 1)) (rangeN p j) := by
          unfold cauchyM
          rw [rangeN_succ, List.map_append, Nat.zero_add]; rfl
        rw [impl_codeMatrix.l1.eq_2, if_neg (by omega), if_pos (by rw [upM_length, List.length_append, Mat.idM_length, cauchyM_length, rangeN_length]; omega), upM_snoc, List.append_assoc, e1, wrap_succ i (by omega)]
      | succ e ihe =>
        intro j hj
        have hx := xor_up (a := i) (b := p + j) (by omega) (by omega)
        have hab := Gf.xor_byte (a := i) (b := p + j) (by omega) (by omega)
        have e1 : cauchyR i (rangeN p j) ++ [Gf.gi (i ^^^ (p + j))] = cauchyR i (rangeN p (j + 1)) := by
          unfold cauchyR
          rw [rangeN_succ, List.map_append]; rfl
        have hl : (Poly.up (cauchyR i (rangeN p j))).length < 17592186044416 := by rw [Poly.up_length]; simp only [cauchyR, List.length_map, rangeN_length]; omega
        refine Ev.step (f := fun k => (impl_inverse.f k ((i ^^^ (p + j) : Nat) : Int)).bind fun t => if (Poly.up (cauchyR i (rangeN p j))).length < 17592186044416 then impl_codeMatrix.l1 k (d : Int) (p : Int) (upM (Mat.idM d ++ cauchyM (rangeN 0 i) (rangeN p d))) (i : Int) (Poly.up (cauchyR i (rangeN p j)) ++ [t]) (p : Int) (i : Int) (d : Int) ((j + 1 : Nat) : Int) else none) (fun k => ?_) ?_
        · rw [impl_codeMatrix.l1.eq_2, if_pos (by omega), wrap_add p j (by omega), hx, wrap_succ j (by omega)]
        · refine Ev.bind (f := fun k t => if (Poly.up (cauchyR i (rangeN p j))).length < 17592186044416 then impl_codeMatrix.l1 k (d : Int) (p : Int) (upM (Mat.idM d ++ cauchyM (rangeN 0 i) (rangeN p d))) (i : Int) (Poly.up (cauchyR i (rangeN p j)) ++ [t]) (p : Int) (i : Int) (d : Int) ((j + 1 : Nat) : Int) else none) (impl_inverse_ev _ hab) ?_
          simp only [if_pos hl, Poly.up_snoc, e1]
          exact ihe (j + 1) (by omega)
    refine Ev.step (f := fun k => impl_codeMatrix.l1 k (d : Int) (p : Int) (upM (Mat.idM d ++ cauchyM (rangeN 0 i) (rangeN p d))) (i : Int) (Poly.up (cauchyR i (rangeN p 0))) (p : Int) (i : Int) (d : Int) ((0 : Nat) : Int)) (fun k => ?_) (row d 0 (by omega))
    rw [impl_codeMatrix.l0.eq_2, if_pos (by omega)]; rfl
theorem impl_codeMatrix_ev (d p : Nat) (hd : d ≤ 20) (hp : p ≤ 20) : Ev (fun k => impl_codeMatrix.f k (d : Int) (p : Int)) (upM (codeM d p)) := by
  unfold impl_codeMatrix.f
  have E := impl_identity_ev d (by omega)
  rw [idL_up] at E
  refine Ev.bind (f := fun k t => impl_codeMatrix.l0 k (d : Int) (p : Int) t (p : Int) 0) E ?_
  have := impl_codeMatrix_l0 d p hd hp p 0 (by omega)
  have e : Mat.idM d ++ cauchyM (rangeN 0 0) (rangeN p d) = Mat.idM d := by simp [rangeN, cauchyM]
  rw [e] at this
  exact this

/-- Data pieces with parity ones behind them. -/
def encM (c p : Nat) (m : List (List Nat)) : List (List Nat) := Mat.mulM c (codeM m.length p) m
theorem encM_length (c p : Nat) (m : List (List Nat)) : (encM c p m).length = m.length + p := by unfold encM; rw [Mat.mulM_length, codeM_length]
theorem encM_MB {c : Nat} (p : Nat) {m : List (List Nat)} (h : Mat.MB' c m) : Mat.MB' c (encM c p m) := Mat.mulM_MB (codeM_MB _ _) h
def encV (l : List (List Int)) (a : Int) : List (List Int) × Bool := if isC (l.length : Int) a && areP l then (upM (encM (l.getD 0 []).length a.toNat (dnM l)), true) else ([], false)
theorem encV_small (l : List (List Int)) (a : Int) : (encV l a).1.length ≤ 32 ∧ ∀ r ∈ (encV l a).1, r.length ≤ 32 := by
  unfold encV
  split
  · rename_i h
    rw [Bool.and_eq_true] at h
    have hc := isC_bd h.1
    obtain ⟨c, n, rfl, hn, e1, h1⟩ := areP_up h.2
    rw [upM_length] at hc
    rw [dnM_upM, e1]
    exact upM_small (encM_MB _ hn) (by rw [encM_length]; omega) h1
  · exact ⟨by simp, fun r hr => by cases hr⟩

/-- Each piece with the change of piece k, as often as its row of the code says. -/
def updL (q : List Nat) : List Nat → List (List Nat) → List (List Nat)
  | f :: fs, r :: m => Mat.radd f r q :: updL q fs m
  | _, _ => []
theorem updL_length (q : List Nat) : ∀ {fs : List Nat} {m : List (List Nat)}, fs.length = m.length → (updL q fs m).length = m.length
  | [], [], _ => rfl
  | f :: fs, r :: m, h => by simp only [updL, List.length_cons, updL_length q (show fs.length = m.length by simpa using h)]
  | [], _ :: _, h => by cases h
  | _ :: _, [], h => by cases h
theorem updL_MB {c : Nat} {q : List Nat} (hq : q.length = c) : ∀ {fs : List Nat} {m : List (List Nat)}, Poly.AllB fs → Mat.MB' c m → Mat.MB' c (updL q fs m)
  | [], _, _, _ => fun r hr => by cases hr
  | _ :: _, [], _, _ => fun r hr => by cases hr
  | f :: fs, r :: m, hf, h => fun x hx => by
    have hr := h r List.mem_cons_self
    rcases List.mem_cons.1 hx with h1 | h1
    · rw [h1]; exact ⟨by rw [Mat.radd_length _ (by rw [hr.1, hq])]; exact hr.1, Mat.radd_bytes hf.head hr.2⟩
    · exact updL_MB hq hf.tail h.tail x h1
theorem updL_snoc (q : List Nat) : ∀ {fs : List Nat} {m : List (List Nat)} (f : Nat) (r : List Nat), fs.length = m.length → updL q (fs ++ [f]) (m ++ [r]) = updL q fs m ++ [Mat.radd f r q]
  | [], [], f, r, _ => rfl
  | g :: fs, p :: m, f, r, h => by simp only [List.cons_append, updL, updL_snoc q f r (show fs.length = m.length by simpa using h)]
  | [], _ :: _, _, _, h => by cases h
  | _ :: _, [], _, _, h => by cases h
/-- The change: piece k beside the new one. -/
def chg (r p : List Nat) : List Nat := Mat.radd 1 r p
def updM (d p : Nat) (m : List (List Nat)) (k : Nat) (piece : List Nat) : List (List Nat) := updL (chg (m.getD k []) piece) (Mat.col k (codeM d p)) m
def updOk (a b : Int) (l : List (List Int)) (k : Int) (p : List Int) : Bool := isC a b && ((areP l && decide ((l.length : Int) = a + b)) && (decide (0 ≤ k ∧ k < a) && (decide (p.length = (l.getD 0 []).length) && p.all isB)))
def updV (a b : Int) (l : List (List Int)) (k : Int) (p : List Int) : List (List Int) × Bool := if updOk a b l k p then (upM (updM a.toNat b.toNat (dnM l) k.toNat (p.map Int.toNat)), true) else ([], false)
theorem updOk_up {a b : Int} {l : List (List Int)} {k : Int} {p : List Int} (h : updOk a b l k p = true) : ∃ (d e kk c : Nat) (m : List (List Nat)) (q : List Nat), a = (d : Int) ∧ b = (e : Int) ∧ k = (kk : Int) ∧ l = upM m ∧ p = Poly.up q ∧ Mat.MB' c m ∧ q.length = c ∧ Poly.AllB q ∧ m.length = d + e ∧ kk < d ∧ 1 ≤ d ∧ d ≤ 6 ∧ 1 ≤ e ∧ e ≤ 4 ∧ c ≤ 32 := by
  simp only [updOk, Bool.and_eq_true, decide_eq_true_eq] at h
  have hb := isC_bd h.1
  obtain ⟨c, m, rfl, hm, e1, h1⟩ := areP_up h.2.1.1
  obtain ⟨q, rfl, hq⟩ := allB_up h.2.2.2.2
  have h2 := h.2.1.2
  have h3 := h.2.2.2.1
  rw [upM_length] at h2
  rw [e1, Poly.up_length] at h3
  exact ⟨a.toNat, b.toNat, k.toNat, c, m, q, by omega, by omega, by have := h.2.2.1; omega, rfl, rfl, hm, h3, hq, by omega, by have := h.2.2.1; omega, by omega, by omega, by omega, by omega, h1⟩
theorem updM_MB {d e k c : Nat} {m : List (List Nat)} {q : List Nat} (hm : Mat.MB' c m) (hq : q.length = c) (hk : k < m.length) : Mat.MB' c (updM d e m k q) := by
  have hr := hm.get hk
  exact updL_MB (by unfold chg; rw [Mat.radd_length _ (by rw [hr.1, hq])]; exact hr.1) (Mat.col_bytes (codeM_MB d e) k) hm
theorem updV_small (a b : Int) (l : List (List Int)) (k : Int) (p : List Int) : (updV a b l k p).1.length ≤ 32 ∧ ∀ r ∈ (updV a b l k p).1, r.length ≤ 32 := by
  unfold updV
  split
  · rename_i h
    obtain ⟨d, e, kk, c, m, q, rfl, rfl, rfl, rfl, rfl, hm, hql, hq, h1, h2, h3, h4, h5, h6, h7⟩ := updOk_up h
    rw [dnM_upM, dn_up, Int.toNat_natCast, Int.toNat_natCast, Int.toNat_natCast]
    exact upM_small (updM_MB hm hql (by omega)) (by unfold updM; rw [updL_length _ (by rw [Mat.col_length, codeM_length, h1])]; omega) h7
  · exact ⟨by simp, fun r hr => by cases hr⟩
theorem chg_getD {r p : List Nat} (h : r.length = p.length) (hp : Poly.AllB p) (j : Nat) : (chg r p).getD j 0 = r.getD j 0 ^^^ p.getD j 0 := by
  unfold chg
  rw [Mat.radd_getD h, Gf.one_gm _ (Poly.AllB.get hp j)]
theorem chg_bytes {r p : List Nat} (hr : Poly.AllB r) : Poly.AllB (chg r p) := Mat.radd_bytes (by decide) hr
theorem updV_j (a b : Int) (l : List (List Int)) (k : Int) (p : List Int) {x : Bool} (h : updOk a b l k p = x) : updV a b l k p = if x then (upM (updM a.toNat b.toNat (dnM l) k.toNat (p.map Int.toNat)), true) else ([], false) := by unfold updV; rw [h]

theorem impl_UpdatePiece_l0 (d e k c : Nat) (m : List (List Nat)) (q : List Nat) (hm : Mat.MB' c m) (hq : q.length = c) (hqb : Poly.AllB q) (hml : m.length = d + e) (hk : k < d) (hd : d ≤ 6) (he : e ≤ 4) (hc : c ≤ 32) : ∀ (u i : Nat), i + u = m.length →
    Ev (fun r => impl_UpdatePiece.l0 r (upM m) (k : Int) (Poly.up q) (upM (codeM d e)) (upM (updL (chg (m.getD k []) q) ((Mat.col k (codeM d e)).take i) (m.take i))) (upM m) (m.length : Int) (i : Int)) (upM (updM d e m k q), true) := by
  have hkm : k < m.length := by omega
  obtain ⟨hkl, hkb⟩ := hm.get hkm
  have hcl : (chg (m.getD k []) q).length = c := by unfold chg; rw [Mat.radd_length _ (by rw [hkl, hq])]; exact hkl
  have hcb : Poly.AllB (chg (m.getD k []) q) := chg_bytes hkb
  have hcol : (Mat.col k (codeM d e)).length = m.length := by rw [Mat.col_length, codeM_length, hml]
  intro u
  induction u with
  | zero =>
    intro i hi
    obtain rfl : i = m.length := by omega
    have e1 : updL (chg (m.getD k []) q) ((Mat.col k (codeM d e)).take m.length) (m.take m.length) = updM d e m k q := by
      rw [List.take_length, ← hcol, List.take_length]; rfl
    rw [e1]
    exact Ev.step (f := fun _ => some (upM (updM d e m k q), true)) (fun r => by rw [impl_UpdatePiece.l0.eq_2, if_neg (by omega)]) (Ev.now _)
  | succ u ih =>
    intro i hi
    have hlt : i < m.length := by omega
    obtain ⟨hrl, hrb⟩ := hm.get hlt
    have hf : (Mat.col k (codeM d e)).getD i 0 < 256 := Poly.AllB.get (Mat.col_bytes (codeM_MB d e) k) i
    have hfe : ((codeM d e).getD i []).getD k 0 = (Mat.col k (codeM d e)).getD i 0 := (Mat.col_at k _ i).symm
    have hcr := (codeM_MB d e).get (i := i) (by rw [codeM_length]; omega)
    have eS : updL (chg (m.getD k []) q) ((Mat.col k (codeM d e)).take i) (m.take i) ++ [Mat.radd ((Mat.col k (codeM d e)).getD i 0) (m.getD i []) (chg (m.getD k []) q)] = updL (chg (m.getD k []) q) ((Mat.col k (codeM d e)).take (i + 1)) (m.take (i + 1)) := by
      rw [List.take_succ_eq_append_getElem hlt, List.take_succ_eq_append_getElem (by omega : i < (Mat.col k (codeM d e)).length), updL_snoc _ _ _ (by simp only [List.length_take]; omega), show m.getD i [] = m[i] by rw [List.getD_eq_getElem?_getD, List.getElem?_eq_getElem hlt]; rfl, show (Mat.col k (codeM d e)).getD i 0 = (Mat.col k (codeM d e))[i] by rw [List.getD_eq_getElem?_getD, List.getElem?_eq_getElem (by omega : i < (Mat.col k (codeM d e)).length)]; rfl]
    generalize hF : (Mat.col k (codeM d e)).getD i 0 = f at hf eS hfe
    have hrc : (m.getD i []).length = (chg (m.getD k []) q).length := by rw [hrl, hcl]
    have row : ∀ (v t : Nat), t + v = c → Ev (fun r => impl_UpdatePiece.l1 r (upM m) (k : Int) (Poly.up q) (upM (codeM d e)) (upM (updL (chg (m.getD k []) q) ((Mat.col k (codeM d e)).take i) (m.take i))) (i : Int) (Poly.up (Mat.raddTo f (m.getD i []) (chg (m.getD k []) q) t)) (upM m) (m.length : Int) (i : Int) (c : Int) (t : Int)) (upM (updM d e m k q), true) := by
      intro v
      induction v with
      | zero =>
        intro t ht
        have htc : t = (m.getD i []).length := by omega
        rw [htc, Mat.raddTo_all hrc]
        refine Ev.step (f := fun r => impl_UpdatePiece.l0 r (upM m) (k : Int) (Poly.up q) (upM (codeM d e)) (upM (updL (chg (m.getD k []) q) ((Mat.col k (codeM d e)).take (i + 1)) (m.take (i + 1)))) (upM m) (m.length : Int) ((i + 1 : Nat) : Int)) (fun r => ?_) (ih (i + 1) (by omega))
        rw [impl_UpdatePiece.l1.eq_2, if_neg (by omega), if_pos (by rw [upM_length, updL_length _ (by simp only [List.length_take]; omega), List.length_take]; omega), upM_snoc, eS, wrap_succ i (by omega)]
      | succ v ihv =>
        intro t ht
        have htl : t < (m.getD i []).length := by omega
        have hpt : q.getD t 0 < 256 := hqb.get t
        have hkt : (m.getD k []).getD t 0 < 256 := Poly.AllB.get hkb t
        have hx1 := xor_up hpt hkt
        have hxb := Gf.xor_byte hpt hkt
        have hxc : q.getD t 0 ^^^ (m.getD k []).getD t 0 = (chg (m.getD k []) q).getD t 0 := by rw [chg_getD (by rw [hkl, hq]) hqb, Nat.xor_comm]
        have hx := xor_up (Poly.AllB.get hrb t) (Gf.gm_lt ((chg (m.getD k []) q).getD t 0) hf)
        refine Ev.step (f := fun r => (impl_mul.f r (f : Int) (((chg (m.getD k []) q).getD t 0 : Nat) : Int)).bind fun z => impl_UpdatePiece.l1 r (upM m) (k : Int) (Poly.up q) (upM (codeM d e)) (upM (updL (chg (m.getD k []) q) ((Mat.col k (codeM d e)).take i) (m.take i))) (i : Int) ((Poly.up (Mat.raddTo f (m.getD i []) (chg (m.getD k []) q) t)).set t (Go.bits .xor .i64 (((m.getD i []).getD t 0 : Nat) : Int) z)) (upM m) (m.length : Int) (i : Int) (c : Int) ((t + 1 : Nat) : Int)) (fun r => ?_) ?_
        · rw [impl_UpdatePiece.l1.eq_2, if_pos (by omega), if_pos (by omega), if_pos (by rw [Poly.up_length, Mat.raddTo_length hrc]; omega), if_pos (by omega), if_pos (by rw [upM_length, codeM_length]; omega), if_pos (by omega), rdL_up, if_pos (by rw [Poly.up_length, hcr.1]; omega), if_pos (by rw [Poly.up_length]; omega), if_pos (by rw [upM_length]; omega), rdL_up, if_pos (by rw [Poly.up_length, hkl]; omega), Poly.rd_up, Poly.rd_up, Poly.rd_up, Poly.rd_up, hfe, hx1, hxc, Mat.raddTo_at hrc htl, wrap_succ t (by omega), Int.toNat_natCast]
        · refine Ev.bind (f := fun r z => impl_UpdatePiece.l1 r (upM m) (k : Int) (Poly.up q) (upM (codeM d e)) (upM (updL (chg (m.getD k []) q) ((Mat.col k (codeM d e)).take i) (m.take i))) (i : Int) ((Poly.up (Mat.raddTo f (m.getD i []) (chg (m.getD k []) q) t)).set t (Go.bits .xor .i64 (((m.getD i []).getD t 0 : Nat) : Int) z)) (upM m) (m.length : Int) (i : Int) (c : Int) ((t + 1 : Nat) : Int)) (impl_mul_ev _ _ hf (Poly.AllB.get hcb t)) ?_
          simp only [hx, Poly.up_set, Mat.raddTo_succ hrc htl]
          exact ihv (t + 1) (by omega)
    have h0 := row c 0 (by omega)
    rw [Mat.raddTo_zero] at h0
    refine Ev.step (f := fun r => impl_UpdatePiece.l1 r (upM m) (k : Int) (Poly.up q) (upM (codeM d e)) (upM (updL (chg (m.getD k []) q) ((Mat.col k (codeM d e)).take i) (m.take i))) (i : Int) (Poly.up (m.getD i [])) (upM m) (m.length : Int) (i : Int) (c : Int) ((0 : Nat) : Int)) (fun r => ?_) h0
    have hcf : slices_Clone_int_int.f (Poly.up (m.getD i [])) = some (Poly.up (m.getD i [])) := by
      unfold slices_Clone_int_int.f
      rw [if_pos (by rw [Poly.up_length]; omega)]
    rw [impl_UpdatePiece.l0.eq_2, if_pos (by omega), if_pos (by omega), if_pos (by rw [upM_length]; omega), rdL_up, hcf, Option.bind_some, Poly.up_length, hrl]; rfl
theorem impl_UpdatePiece_ev (a b : Int) (l : List (List Int)) (k : Int) (p : List Int) (hp : p.length ≤ 1048576) : Ev (fun r => impl_UpdatePiece.f r a b l k p) (updV a b l k p) := by
  have no : ∀ {x : Bool}, x = true → Ev (fun r => impl_UpdatePiece.j0 r a b l k p x) ([], false) := fun {x} hx => Ev.step (f := fun _ => some ([], false)) (fun r => by rw [impl_UpdatePiece.j0.eq_2, if_pos hx]) (Ev.now _)
  unfold impl_UpdatePiece.f
  simp only [impl_isCode_eq, Option.bind_some]
  cases h1 : isC a b
  · rw [updV_j a b l k p (x := false) (by unfold updOk; rw [h1]; rfl)]
    simp only [Bool.false_eq_true, if_false]
    exact no rfl
  have hb := isC_bd h1
  simp only [if_true]
  rw [wrap_id (n := a + b) (by omega) (by omega), wrap_id (n := a - 1) (by omega) (by omega)]
  have hP : impl_arePieces.f l (a + b) = some (areP l && decide ((l.length : Int) = a + b)) := by
    by_cases hm : 0 < l.length
    · exact impl_arePieces_eq l _ hm
    · have e : ¬ (l.length : Int) = a + b := by omega
      unfold impl_arePieces.f impl_areLong.f
      rw [if_neg e, decide_eq_false e, Bool.and_false]; rfl
  rw [hP]
  simp only [Option.bind_some]
  cases h2 : areP l && decide ((l.length : Int) = a + b)
  · rw [updV_j a b l k p (x := false) (by unfold updOk; rw [h1, h2]; rfl)]
    simp only [Bool.false_eq_true, if_false]
    exact no rfl
  have h2b := h2
  rw [Bool.and_eq_true, decide_eq_true_eq] at h2b
  have z1 : (0 : Int) < (l.length : Int) := by omega
  simp only [if_true, impl_within_eq, Option.bind_some]
  by_cases h3 : 0 ≤ k ∧ k < a
  · have e3 : decide (0 ≤ k ∧ k ≤ a - 1) = true := decide_eq_true (by omega)
    have e3' : decide (0 ≤ k ∧ k < a) = true := decide_eq_true h3
    simp only [e3, if_true, if_pos z1, impl_areGf_eq, Option.bind_some]
    have eL : rd_L1 l 0 = l.getD 0 [] := rfl
    rw [eL]
    by_cases h4 : p.length = (l.getD 0 []).length
    · have e4 : decide (p.length = (l.getD 0 []).length) = true := decide_eq_true h4
      simp only [if_pos (show (p.length : Int) = ((l.getD 0 []).length : Int) by omega)]
      cases h5 : p.all isB
      · rw [updV_j a b l k p (x := false) (by unfold updOk; rw [h1, h2, e3', e4, h5]; rfl)]
        exact no rfl
      · have hok : updOk a b l k p = true := by unfold updOk; rw [h1, h2, e3', e4, h5]; rfl
        rw [updV_j a b l k p hok, if_pos rfl]
        obtain ⟨d, e, kk, c, m, q, rfl, rfl, rfl, rfl, rfl, hm, hql, hq, g1, g2, g3, g4, g5, g6, g7⟩ := updOk_up hok
        rw [dnM_upM, dn_up, Int.toNat_natCast, Int.toNat_natCast, Int.toNat_natCast]
        have E0 := impl_UpdatePiece_l0 d e kk c m q hm hql hq g1 g2 g4 g6 g7 m.length 0 (by omega)
        refine Ev.step (f := fun r => (impl_codeMatrix.f r (d : Int) (e : Int)).bind fun t => impl_UpdatePiece.l0 r (upM m) (kk : Int) (Poly.up q) t (upM []) (upM m) (m.length : Int) ((0 : Nat) : Int)) (fun r => ?_) (Ev.bind (f := fun r t => impl_UpdatePiece.l0 r (upM m) (kk : Int) (Poly.up q) t (upM []) (upM m) (m.length : Int) ((0 : Nat) : Int)) (impl_codeMatrix_ev d e (by omega) (by omega)) E0)
        rw [impl_UpdatePiece.j0.eq_2, if_neg (by decide), upM_length]; rfl
    · simp only [if_neg (show ¬ (p.length : Int) = ((l.getD 0 []).length : Int) by omega)]
      rw [updV_j a b l k p (x := false) (by unfold updOk; rw [h1, h2, e3', decide_eq_false h4]; rfl)]
      exact no rfl
  · have e3 : decide (0 ≤ k ∧ k ≤ a - 1) = false := decide_eq_false (by omega)
    simp only [e3, Bool.false_eq_true, if_false]
    rw [updV_j a b l k p (x := false) (by unfold updOk; rw [h1, h2, decide_eq_false h3]; rfl)]
    exact no rfl

theorem mk_rows {P : Program} (e : TypeId) (bytes : Nat) (t : TypeId) (ht : P.underlying t = some (.slice e)) (hinfo : (P.info? e).map (fun i => (i.zero, i.size, i.bytes)) = some (some (.slice none 0 0), 1, bytes)) (hb0 : 0 < bytes) (m : Nat) (hn : m * bytes ≤ 281474976710656) :
    ∀ W : World, (Instr.makeSlice t (.int .i64 (m : Int)) (.int .i64 (m : Int))).run P W = .ok (.slice (some ⟨W.heap.size, 0, none⟩) m m) (W.alloc (.cells (madeCells #[.slice none 0 0] m) e)) := by
  intro W
  have hm : m ≤ 281474976710656 := Nat.le_trans (Nat.le_mul_of_pos_right _ hb0) hn
  exact run_make_row' t e (.slice none 0 0) bytes ht hinfo rfl .i64 .i64 m (by rw [Nat.mul_comm]; exact hn) (by omega) W
/-- A row of m nils is made. -/
theorem mk_event {P : Program} {ops : Array Oper} {rest : List Oper} {o : Oper} {a : Act} {Q : Exit → Act → World → Prop} {W : World} (q : TypeId) (hgd : o.guard = none) {N : Tmp} (hd : o.dst = some N) (t e : TypeId) (x y : Operand) (ho : o.op = .makeSlice t x y) (m : Nat) (hx : a.eval x = .int .i64 (m : Int)) (hy : a.eval y = .int .i64 (m : Int)) (bytes : Nat)
    (ht : P.underlying t = some (.slice e)) (hinfo : (P.info? e).map (fun i => (i.zero, i.size, i.bytes)) = some (some (.slice none 0 0), 1, bytes)) (hb0 : 0 < bytes) (hn : m * bytes ≤ 281474976710656)
    (h : ∀ g w1, Mx.Mx e q w1 W.heap.size w1.heap.size (.slice (some ⟨g, 0, none⟩) m m) (List.replicate m []) (List.replicate m (.slice none 0 0)) → Below W.heap.size W w1 → wpList P ops Q rest (a.put o.dst (.slice (some ⟨g, 0, none⟩) m m)) w1) : wpList P ops Q (o :: rest) a W := by
  have hm : m ≤ 281474976710656 := Nat.le_trans (Nat.le_mul_of_pos_right _ hb0) hn
  have h1 : W.heap.size + 1 = (W.alloc (.cells (madeCells #[Value.slice none 0 0] m) e)).heap.size := by simp
  have hM := Mx.Mx.nils (e := e) (t := q) W W.heap.size m (Nat.le_refl _) (by omega)
  rw [h1] at hM
  exact Kd.event_run hgd (by simp [execOp, ho, hx, hy, mk_rows e bytes t ht hinfo hb0 m hn]) (h _ _ hM (below_alloc (Below.refl _ _) _))

theorem infoR : (Try.prog.info? 28).map (fun i => (i.zero, i.size, i.bytes)) = some (some (.slice none 0 0), 1, 24) := by kernel_rfl

set_option maxHeartbeats 4000000 in
set_option maxRecDepth 100000 in
/-- A copy of a list of rows, rows and all. -/
theorem toSS_calls (A : Option Addr) (c : Nat) (m : List (List Int)) (w : World) (hr0 : Kd.C (Kd.slice 3 (Kd.int .i64)) w A m.length m) (hc0 : m.length ≤ c) (hml : m.length ≤ 1048576) (hrow : ∀ r ∈ m, r.length ≤ 1048576) :
    Calls Try.prog 33 #[.slice A m.length c] w fun e w' => ∃ v vs, e = .returned v ∧ Mx.Mx 28 3 w' w.heap.size w'.heap.size v m vs ∧ Below w.heap.size w w' := by
  have HR := Aside0.mk hr0
  have HC := Aside0.mk hc0
  have HW := Aside0.mk hrow
  have HM := Aside0.mk hml
  clear hr0 hc0 hrow
  go_enter Try.func33, Try.ntmps33
  go_wp2_with (first | ((with_reducible refine gate_dst (N := 7) rfl ?_); refine mk_event 3 rfl rfl 32 28 _ _ rfl m.length rfl rfl 24 Try.underlying32 infoR (by decide) (by have := HM.out; omega) ?_; intro g w1 hM hb; have HX0 := Aside0.mk hM; have HB0 := Aside0.mk hb; clear hM hb))
  go_loopg [4] m.length (fun gg s4 wr => ∃ (i : Nat) (vs : List Value), i ≤ m.length ∧ m.length - i ≤ gg ∧ s4 = .int .i64 i ∧ Aside0 (Mx.Mx 28 3 wr w.heap.size wr.heap.size (.slice (some ⟨g, 0, none⟩) m.length m.length) (m.take i ++ List.replicate (m.length - i) []) vs) ∧ Aside0 (Below w.heap.size w wr))
  case atStart => exact ⟨0, _, Nat.zero_le _, by omega, rfl, ⟨by simpa using HX0.out⟩, HB0⟩
  case round =>
    clear HX0 HB0
    obtain ⟨i, vs, hi', hg, rfl, HX, HB⟩ := hrel
    by_cases hlt : i < m.length
    · have hM := HX.out
      have hlen : (m.take i ++ List.replicate (m.length - i) []).length = m.length := by rw [List.length_append, List.length_take, List.length_replicate]; omega
      obtain ⟨u, hu⟩ := hM.at_ (i := i) (by rw [hlen]; exact hlt)
      obtain ⟨g', cap, hv, hg0, hg1, _, _, hcell⟩ := hM.cells (by rw [hlen]; omega)
      have hc := (hcell i u hu).1
      have hf := (hcell i u hu).2
      clear hcell
      obtain ⟨ad, A1, c1, rfl, hx, hl1, hr1⟩ := Mx.rows_at HR.out i hlt hlt
      have hx' := pw_cell_below HB.out hx
      obtain ⟨K, hK⟩ := (laws_toIntS_ev m[i] (HW.out _ (List.getElem_mem hlt))).rounds
      have hcall := laws_toIntS.calls K A1 c1 m[i] m[i] wr (Kd.C_below hr1 HB.out) hl1 hK
      have hset : (m.take i ++ List.replicate (m.length - i) []).set i m[i] = m.take (i + 1) ++ List.replicate (m.length - (i + 1)) [] := by
        rw [List.set_append_right _ _ (by rw [List.length_take]; omega), List.length_take, Nat.min_eq_left hi', Nat.sub_self, show m.length - i = (m.length - (i + 1)) + 1 by omega, List.replicate_succ, List.set_cons_zero, List.take_succ_eq_append_getElem hlt, List.append_assoc]
        rfl
      have HU := Aside0.mk hu
      have HC2 := Aside0.mk hc
      have HF2 := Aside0.mk hf
      have HS := Aside0.mk hset
      have HL := Aside0.mk hlen
      clear hM hlen hu hset hx hc hf hr1 hK
      injection hv with hv1 hv2 hv3
      injection hv1 with hv1
      injection hv1 with hv1 _ _
      subst hv1
      clear hv2 hv3
      go_wp2_with (first
        | (go_at_call 39; refine hcall.mono ?_; rintro e w1 ⟨v1, rfl, hR1, hb1⟩; obtain ⟨A9, c9, rfl⟩ := Kd.R_slice hR1; have hc2 := pw_cell_below hb1 HC2.out; have hf2 := (hb1.frozen (World.block_lt_of_cell? _ _ HC2.out)).trans HF2.out; have HB1 := Aside0.mk hb1; have HR1 := Aside0.mk hR1; clear hb1 hR1)
        | ((with_reducible refine gate_store (t := 28) (p := 21) rfl ?_); refine store_event (t := 28) (p := 21) (v := ?vo) (w1 := (w1.setCell ⟨g, i, none⟩ (.slice A9 m[i].length c9))) ?hg ?ho ?hn ?hr ?_; (case ho => rfl); (case hg => rfl); (case hn => rfl); (case hr => first | (go_simp; done) | (go_simp; rfl)); intro w2 hw; have HW2 := Aside0.mk hw; clear hw hc2 hf2))
      have hlo := HB.out.size
      have hX1 := (HX.out.below HB1.out).widen (Nat.le_refl _) HB1.out.size
      have hR2 := Mx.row_made HR1.out hlo
      have hp := Mx.Mx.place (by rw [HL.out]; exact hX1) (by decide) (i := i) (by rw [HL.out]; exact hlt) hR2 (fun j u hu => HX.out.new HR1.out j u hu)
      rw [HL.out, HS.out, ← HW2.out] at hp
      have hb2 := hp.2.below (HB.out.trans (HB1.out.mono hlo)) (Nat.le_trans hlo HB1.out.size) hg0
      have hp1 := hp.1
      rw [show w1.heap.size = w2.heap.size by rw [HW2.out]; simp [World.setCell]] at hp1
      have HX2 := Aside0.mk hp1
      have HB2 := Aside0.mk hb2
      clear hX1 hR2 hp hp1 hb2 hlo
      go_roundg (m.length - (i + 1))
      case measure => omega
      case rel => exact ⟨i + 1, _, by omega, by omega, by go_num, HX2, HB2⟩
    · obtain rfl : i = m.length := by omega
      go_wp2
      go_ret
      have hx := HX.out
      rw [List.take_length, Nat.sub_self, List.replicate_zero, List.append_nil] at hx
      exact ⟨_, _, rfl, hx, HB.out⟩

theorem rows_len {w : World} {A : Option Addr} {n : Nat} {E : TypeId} {xs : List (List Int)} (h : Kd.C (Kd.slice E (Kd.int .i64)) w A n xs) : xs.length ≤ 9223372036854775807 ∧ ∀ r ∈ xs, r.length ≤ 9223372036854775807 := by
  have hn := h.1
  have hm := h.2.1
  refine ⟨by omega, fun r hr => ?_⟩
  obtain ⟨i, hi, rfl⟩ := List.getElem_of_mem hr
  obtain ⟨_, _, _, _, _, _, hC⟩ := Mx.rows_at h i (by omega) hi
  have := hC.2.1
  have := hC.1
  omega
theorem small_rows {m : List (List Int)} (h : m.length + tot m ≤ 1048576) : m.length ≤ 1048576 ∧ (∀ r ∈ m, r.length ≤ 1048576) ∧ tot m ≤ 1048576 := by
  have ht : ∀ (l : List (List Int)), ∀ r ∈ l, r.length ≤ tot l := by
    intro l
    induction l with
    | nil => intro r hr; cases hr
    | cons x l ih =>
      intro r hr
      rcases List.mem_cons.1 hr with rfl | hr
      · simp only [tot]; omega
      · have := ih r hr; simp only [tot]; omega
  exact ⟨by omega, fun r hr => by have := ht m r hr; omega, by omega⟩
theorem le_small {m : List (List Int)} {k : Nat} (h : m.length ≤ k ∧ ∀ r ∈ m, r.length ≤ k) (hk : k ≤ 1000 := by decide) : m.length ≤ 1000 ∧ ∀ r ∈ m, r.length ≤ 1000 := ⟨by omega, fun r hr => by have := h.2 r hr; omega⟩

theorem toSS_e {w0 w : World} {L : List (Value × Env.It)} (E : Env.Env 28 3 w0 w L) (A : Option Addr) (c : Nat) (m : List (List Int)) (hr0 : Kd.C (Kd.slice 3 (Kd.int .i64)) w0 A m.length m) (hc0 : m.length ≤ c) (hml : m.length ≤ 1048576) (hrow : ∀ r ∈ m, r.length ≤ 1048576) :
    Calls Try.prog 33 #[.slice A m.length c] w fun e w' => ∃ A1 c1, e = .returned (.slice A1 m.length c1) ∧ Env.Env 28 3 w0 w' ((.slice A1 m.length c1, .mat m) :: L) :=
  (toSS_calls A c m w (E.came hr0) hc0 hml hrow).mono fun e w' ⟨v, vs, he, hM, hb⟩ => by
    obtain ⟨A1, c1, hv, _, _⟩ := hM.C (by decide)
    subst hv
    exact ⟨A1, c1, he, E.mx hM hb⟩

theorem toS_e {w0 w : World} {L : List (Value × Env.It)} (E : Env.Env 28 3 w0 w L) (A : Option Addr) (c : Nat) (x : List Int) (hr0 : Kd.C (Kd.int .i64) w0 A x.length x) (hc0 : x.length ≤ c) (hxl : x.length ≤ 1048576) :
    Calls Try.prog 39 #[.slice A x.length c] w fun e w' => ∃ A1 c1, e = .returned (.slice A1 x.length c1) ∧ Env.Env 28 3 w0 w' ((.slice A1 x.length c1, .row x) :: L) := by
  obtain ⟨K, hK⟩ := (laws_toIntS_ev x hxl).rounds
  exact (laws_toIntS.calls K A c x x w (E.camer hr0) hc0 hK).mono fun e w' ⟨v, he, hR, hb⟩ => by
    obtain ⟨A1, c1, hv, hE⟩ := E.madeR hR hb
    subst hv
    exact ⟨A1, c1, he, hE⟩

theorem sz_c (A : Option Addr) (c : Nat) (m : List (List Int)) (a : Int) (w : World) (hr0 : Kd.C (Kd.slice 3 (Kd.int .i64)) w A m.length m) (hc0 : m.length ≤ c) (h0 : 0 ≤ a) (h1 : a ≤ 1048576) :
    Calls Try.prog 31 #[.slice A m.length c, .int .i64 a] w fun e w' => e = .returned (.int .i64 (szV m a)) ∧ Below w.heap.size w w' := by
  have hb := rows_len hr0
  obtain ⟨K, hK⟩ := (laws_szIntSS_ev m hb.1 hb.2 a h0 h1).rounds
  exact (laws_szIntSS.calls K A c m a _ w hr0 hc0 hK).mono fun e w' ⟨he, hd⟩ => ⟨he, hd.below⟩
theorem szV_big {m : List (List Int)} {a : Int} (h : a < (m.length + tot m : Nat)) : szV m a = -1 := by unfold szV; rw [if_pos (by omega)]
theorem szV_ok {m : List (List Int)} {a : Int} (h : ¬ a < (m.length + tot m : Nat)) : szV m a = a - (m.length + tot m : Nat) := by unfold szV; rw [if_neg (by omega)]

theorem eqSS_e {w0 w : World} {L : List (Value × Env.It)} (E : Env.Env 28 3 w0 w L) (i j : Nat) {A1 A2 : Option Addr} {c1 c2 : Nat} {it1 it2 : Env.It} {m : List (List Int)} (hi : L[i]? = some (.slice A1 m.length c1, it1)) (hj : L[j]? = some (.slice A2 m.length c2, it2)) (hm1 : it1.rows = some m) (hm2 : it2.rows = some m) (hl : m.length ≤ 1048576) (hr : ∀ r ∈ m, r.length ≤ 1048576) :
    Calls Try.prog 35 #[.slice A1 m.length c1, .slice A2 m.length c2] w fun e w' => e = .returned (.bool true) ∧ Env.Env 28 3 w0 w' L := by
  obtain ⟨K, hK⟩ := laws_eqIntSS_same m hl hr
  have h1 := E.Cq (by decide) i hi hm1
  have h2 := E.Cq (by decide) j hj hm2
  exact (laws_eqIntSS.calls K A1 c1 m A2 c2 m true w h1.2 h1.1 h2.2 h2.1 hK).mono fun e w' ⟨he, hd⟩ => ⟨he, E.below hd.below⟩

theorem eqS_e {w0 w : World} {L : List (Value × Env.It)} (E : Env.Env 28 3 w0 w L) (i j : Nat) {A1 A2 : Option Addr} {c1 c2 : Nat} {x : List Int} (hi : L[i]? = some (.slice A1 x.length c1, .row x)) (hj : L[j]? = some (.slice A2 x.length c2, .row x)) (hl : x.length ≤ 1048576) :
    Calls Try.prog 41 #[.slice A1 x.length c1, .slice A2 x.length c2] w fun e w' => e = .returned (.bool true) ∧ Env.Env 28 3 w0 w' L := by
  obtain ⟨K, hK⟩ := (laws_eqIntS_ev x x (by omega)).rounds
  rw [decide_eq_true rfl] at hK
  exact (laws_eqIntS.calls K A1 c1 x A2 c2 x true w (E.Cr i hi) (E.capr i hi) (E.Cr j hj) (E.capr j hj) hK).mono fun e w' ⟨he, hd⟩ => ⟨he, E.below hd.below⟩

set_option maxHeartbeats 4000000 in
set_option maxRecDepth 100000 in
/-- All places of rows of one's own are numbered: they are apart, so each keeps its number. -/
theorem markSS_calls (lo hi : Nat) (A : Option Addr) (c : Nat) (m : List (List Int)) (vs : List Value) (a : Nat) (w0 w : World) (hB : Below w0.heap.size w0 w) (hlo : w0.heap.size ≤ lo) (hc0 : m.length ≤ c)
    (hM : Mx.Mx 28 3 w lo hi (.slice A m.length c) m vs) (hs : a + tot m ≤ 1000000000) (hr : ∀ r ∈ m, r.length ≤ 1048576) (hml : m.length ≤ 1048576) :
    Calls Try.prog 36 #[.slice A m.length c, .int .i64 (a : Int)] w fun e w' => e = .returned (.int .i64 ((a + tot m : Nat) : Int)) ∧ Mx.Mx 28 3 w' lo hi (.slice A m.length c) (marksS a m) vs ∧ Mx.Only lo hi w w' := by
  have HB := Aside0.mk hB
  have HM := Aside0.mk hM
  have HC := Aside0.mk hc0
  clear hB hM hc0
  go_enter Try.func36, Try.ntmps36
  go_wp2
  go_loopg [1, 5] m.length (fun gg s1 s5 wr => ∃ i : Nat, i ≤ m.length ∧ m.length - i ≤ gg ∧ s5 = .int .i64 i ∧ s1 = .int .i64 ((a + tot (m.take i) : Nat) : Int) ∧ Aside0 (Mx.Mx 28 3 wr lo hi (.slice A m.length c) (marksS a (m.take i) ++ m.drop i) vs) ∧ Aside0 (Mx.Only lo hi w wr))
  case atStart => exact ⟨0, Nat.zero_le _, by omega, rfl, by simp [tot], ⟨by simpa [marksS] using HM.out⟩, ⟨Mx.Only.refl _ _ _⟩⟩
  case round =>
    obtain ⟨i, hi', hg, rfl, rfl, HX, HO⟩ := hrel
    by_cases hlt : i < m.length
    · have hM := HX.out
      have hlen : (marksS a (m.take i) ++ m.drop i).length = m.length := by rw [List.length_append, marksS_length, ← List.length_append, List.take_append_drop]
      have hat : (marksS a (m.take i) ++ m.drop i)[i]? = some m[i] := by
        rw [List.getElem?_append_right (by rw [marksS_length, List.length_take]; omega), marksS_length, List.length_take, Nat.min_eq_left hi', Nat.sub_self, List.drop_eq_getElem_cons hlt]; rfl
      obtain ⟨u, hu⟩ := hM.at_ (i := i) (by rw [hlen]; exact hlt)
      have hrow := hM.row i m[i] u hat hu
      obtain ⟨g, cap, hv, hg0, hg1, _, _, hcell⟩ := hM.cells (by rw [hlen]; omega)
      have hc := (hcell i u hu).1
      clear hcell
      obtain ⟨K, hK⟩ := (laws_markIntS_ev m[i] (a + tot (m.take i)) (hr _ (List.getElem_mem hlt)) (by have := tot_take m i; omega)).rounds
      have hcall := laws_markIntS.calls K (fun k => some k = u.ownBlock) u m[i] _ _ _ w0 wr (HO.out.below HB.out HB.out.size hlo) (Kd.R_lower (Kd.R_tight rfl hrow) hlo) hK
      have hset : (marksS a (m.take i) ++ m.drop i).set i (marks (a + tot (m.take i)) m[i].length) = marksS a (m.take (i + 1)) ++ m.drop (i + 1) := by
        rw [List.set_append_right _ _ (by rw [marksS_length, List.length_take]; omega), marksS_length, List.length_take, Nat.min_eq_left hi', Nat.sub_self, List.drop_eq_getElem_cons hlt, List.set_cons_zero, List.take_succ_eq_append_getElem hlt, marksS_append, List.append_assoc]
        rfl
      have ht := tot_succ m i hlt
      obtain ⟨Au, cu, hus⟩ := Kd.R_slice hrow
      have HU := Aside0.mk hu
      have HR := Aside0.mk hrow
      have HA := Aside0.mk hat
      have HS := Aside0.mk hset
      have HT := Aside0.mk ht
      clear hM hlen hat hu hrow hK hset ht
      injection hv with hv1 hv2 hv3
      subst hv1
      clear hv2 hv3
      subst hus
      go_wp2_with (go_at_call 42; refine hcall.mono ?_; rintro e w1 ⟨rfl, hR1, hb1, hk1⟩)
      go_roundg (m.length - (i + 1))
      case measure => omega
      case rel =>
        refine ⟨i + 1, by omega, by omega, by go_num, by rw [HT.out]; congr 1; omega, ⟨?_⟩, ⟨HO.out.trans ?_⟩⟩
        · rw [← HS.out]
          exact HX.out.put (by decide) HU.out (fun k hk hne => hk1.2 k hk (fun he => hne he)) (Mx.row_base hR1 (fun k hk => ⟨(Mx.row_lo HR.out k hk).1, (Mx.row_lo HR.out k hk).2.1⟩))
        · exact Mx.Only.of_kept (HO.out.below HB.out HB.out.size hlo) hb1 hk1 (fun k hk => ⟨(Mx.row_lo HR.out k hk.symm).1, (Mx.row_lo HR.out k hk.symm).2.1⟩)
    · obtain rfl : i = m.length := by omega
      go_wp2
      go_ret
      have hx := HX.out
      rw [List.take_length, List.drop_length, List.append_nil] at hx
      exact ⟨by first | rfl | simp, hx, HO.out⟩
theorem markSS_one (lo hi : Nat) (A : Option Addr) (c : Nat) (m : List (List Int)) (vs : List Value) (w0 w : World) (hB : Below w0.heap.size w0 w) (hlo : w0.heap.size ≤ lo)
    (hM : Mx.Mx 28 3 w lo hi (.slice A m.length c) m vs) (hl : m.length ≤ 100) (hr : ∀ r ∈ m, r.length ≤ 1048576) (hs : tot m ≤ 100000000) :
    Calls Try.prog 36 #[.slice A m.length c, .int .i64 1] w fun e w' => e = .returned (.int .i64 ((1 + tot m : Nat) : Int)) ∧ Mx.Mx 28 3 w' lo hi (.slice A m.length c) (marksS 1 m) vs ∧ Mx.Only lo hi w w' := by
  have := markSS_calls lo hi A c m vs 1 w0 w hB hlo (hM.C' (by decide)).2.1 hM (by omega) hr (by omega)
  rwa [show ((1 : Nat) : Int) = 1 from rfl] at this

theorem markSS_e {w0 w : World} {L : List (Value × Env.It)} (E : Env.Env 28 3 w0 w L) (i : Nat) {A : Option Addr} {c : Nat} {m : List (List Int)} (hi : L[i]? = some (.slice A m.length c, .mat m)) (a : Nat) (z : Int) (hz : z = (a : Int)) (n : Nat) (hn : n = a + tot m) (hml : m.length ≤ 1048576) (hr : ∀ r ∈ m, r.length ≤ 1048576) (hs : n ≤ 1000000000) :
    Calls Try.prog 36 #[.slice A m.length c, .int .i64 z] w fun e w' => e = .returned (.int .i64 (n : Int)) ∧ Env.Env 28 3 w0 w' (L.set i (.slice A m.length c, .mat (marksS a m))) := by
  subst hz hn
  obtain ⟨lo, hi', h1, h2, ⟨vs, hM⟩, h4⟩ := E.turn i hi
  exact (markSS_calls lo hi' A c m vs a w0 w E.1 h1 (hM.C' (by decide)).2.1 hM hs hr hml).mono fun e w' ⟨he, hM', ho⟩ => ⟨he, h4 w' (.mat (marksS a m)) ho ⟨vs, hM'⟩⟩
theorem heldSS_e {w0 w : World} {L : List (Value × Env.It)} (E : Env.Env 28 3 w0 w L) (i : Nat) {A : Option Addr} {c : Nat} {m : List (List Int)} (a : Nat) (hi : L[i]? = some (.slice A m.length c, .mat (marksS a m))) (z : Int) (hz : z = (a : Int)) (n : Nat) (hn : n = a + tot m) (hml : m.length ≤ 1048576) (hs : n ≤ 1000000000) :
    Calls Try.prog 37 #[.slice A m.length c, .int .i64 z] w fun e w' => e = .returned (.int .i64 (n : Int)) ∧ Env.Env 28 3 w0 w' L := by
  subst hz hn
  obtain ⟨K, hK⟩ := laws_heldIntSS_ev a m (by omega) hml
  have hC := E.C (by decide) i hi
  have := laws_heldIntSS.calls K A c (marksS a m) (a : Int) _ w hC (by rw [marksS_length]; exact E.cap (by decide) i hi) hK
  rw [marksS_length] at this
  exact this.mono fun e w' ⟨he, hd⟩ => ⟨he, E.below hd.below⟩

theorem markS_e {w0 w : World} {L : List (Value × Env.It)} (E : Env.Env 28 3 w0 w L) (i : Nat) {A : Option Addr} {c : Nat} {x : List Int} (hi : L[i]? = some (.slice A x.length c, .row x)) (a : Nat) (z : Int) (hz : z = (a : Int)) (n : Nat) (hn : n = a + x.length) (hl : x.length ≤ 1048576) (hs : n ≤ 500000000) :
    Calls Try.prog 42 #[.slice A x.length c, .int .i64 z] w fun e w' => e = .returned (.int .i64 (n : Int)) ∧ Env.Env 28 3 w0 w' (L.set i (.slice A x.length c, .row (marks a x.length))) := by
  subst hz hn
  obtain ⟨lo, hi', h1, h2, hR, h4⟩ := E.turn i hi
  obtain ⟨K, hK⟩ := (laws_markIntS_ev x a hl (by omega)).rounds
  have hcall := laws_markIntS.calls K (fun k => some k = (Value.slice A x.length c).ownBlock) (.slice A x.length c) x _ _ _ w0 w E.1 (Kd.R_lower (Kd.R_tight rfl hR) h1) hK
  refine hcall.mono fun e w' => ?_
  rintro ⟨he, hR1, hb1, hk1⟩
  refine ⟨he, h4 w' (.row (marks a x.length)) (Mx.Only.of_kept E.1 hb1 hk1 (fun k hk => ?_)) (Mx.row_base hR1 (fun k hk => ?_))⟩
  · exact ⟨(Mx.row_lo hR k hk.symm).1, (Mx.row_lo hR k hk.symm).2.1⟩
  · exact ⟨(Mx.row_lo hR k hk).1, (Mx.row_lo hR k hk).2.1⟩

def spec_UpdatePiece.f (a b : Int) (l : List (List Int)) (k : Int) (p : List Int) : Option (List (List Int) × Bool) := if l.length ≤ 1048576 ∧ (∀ r ∈ l, r.length ≤ 1048576) ∧ p.length ≤ 1048576 then some (updV a b l k p) else none
theorem infoI : (Try.prog.info? 3).map (fun i => (i.zero, i.size, i.bytes)) = some (some (.int .i64 0), 1, 8) := by kernel_rfl
/-- A multiple of a row that came in is added to a row of one's own. -/
theorem addRow_e {w0 w : World} {L : List (Value × Env.It)} (E : Env.Env 28 3 w0 w L) (i : Nat) {A : Option Addr} {c : Nat} {x y : List Nat} (hi : L[i]? = some (.slice A (Poly.up x).length c, .row (Poly.up x))) (f : Nat) (A1 : Option Addr) (c1 : Nat) (z : Int) (hz : z = (f : Int)) (hC : (Kd.int .i64).C w0 A1 (Poly.up y).length (Poly.up y)) (hc : (Poly.up y).length ≤ c1)
    (hf : f < 256) (hx : Poly.AllB x) (hy : Poly.AllB y) (hl : x.length = y.length) (hb : x.length ≤ 1000) :
    Calls Try.prog 135 #[.slice A (Poly.up x).length c, .slice A1 (Poly.up y).length c1, .int .i64 z] w fun e w' => e = .returned (.tuple #[]) ∧ Env.Env 28 3 w0 w' (L.set i (.slice A (Poly.up x).length c, .row (Poly.up (Mat.radd f x y)))) := by
  subst hz
  obtain ⟨lo, hi', h1, h2, hR, h4⟩ := E.turn i hi
  obtain ⟨K, hK⟩ := (spec_l2Add_ev x y f hf hx hy hl hb).rounds
  have hcall := spec_l2Add.calls K (fun k => some k = (Value.slice A (Poly.up x).length c).ownBlock) (.slice A (Poly.up x).length c) (Poly.up x) A1 c1 (Poly.up y) (f : Int) _ w0 w E.1 (Kd.R_lower (Kd.R_tight rfl hR) h1) (Kd.C_kept_came (Kd.heap_int _) hC E.1 (fun k hk => Nat.le_trans h1 (Mx.row_lo hR k hk.symm).1)) hc hK
  refine hcall.mono fun e w' => ?_
  rintro ⟨he, hR1, hb1, hk1⟩
  refine ⟨he, h4 w' (.row (Poly.up (Mat.radd f x y))) (Mx.Only.of_kept E.1 hb1 hk1 (fun k hk => ?_)) (Mx.row_base hR1 (fun k hk => ?_))⟩
  · exact ⟨(Mx.row_lo hR k hk.symm).1, (Mx.row_lo hR k hk.symm).2.1⟩
  · exact ⟨(Mx.row_lo hR k hk).1, (Mx.row_lo hR k hk).2.1⟩
set_option maxHeartbeats 8000000 in
set_option maxRecDepth 100000 in
theorem spec_UpdatePiece.calls (a0 a1 : Int) (A2 : Option Addr) (c2 : Nat) (l2 : List (List Int)) (a3 : Int) (A4 : Option Addr) (c4 : Nat) (l4 : List Int) (r1 : List (List Int)) (r2 : Bool) (w : World) (hr2 : Kd.C (Kd.slice 3 (Kd.int .i64)) w A2 l2.length l2) (hc2 : l2.length ≤ c2) (hr4 : (Kd.int .i64).C w A4 l4.length l4) (hc4 : l4.length ≤ c4) (h : spec_UpdatePiece.f a0 a1 l2 a3 l4 = some (r1, r2)) :
    Calls Try.prog 61 #[.int .i64 a0, .int .i64 a1, .slice A2 l2.length c2, .int .i64 a3, .slice A4 l4.length c4] w fun e w' => ∃ v0_ : Value, e = .returned (.tuple #[v0_, .bool r2]) ∧ Kd.S (Kd.slice 3 (Kd.int .i64)) 28 w' w.heap.size (fun _ => True) v0_ r1 ∧ Below w.heap.size w w' := by
  have HR2 := Aside0.mk hr2
  have HC2 := Aside0.mk hc2
  have HR4 := Aside0.mk hr4
  have HC4 := Aside0.mk hc4
  clear hr2 hc2 hr4 hc4
  unfold spec_UpdatePiece.f at h
  split at h
  rotate_left
  · cases h
  rename_i hsz
  have H0 := Option.some.inj h
  clear h
  have h1 := spec_l3Size_eq a0 a1
  obtain ⟨K2, h2⟩ := (spec_l3Pieces_ev l2 (a0 + a1) (by omega) (fun r h => by have := hsz.2.1 r h; omega)).rounds
  obtain ⟨K6, h6⟩ := (spec_l1All_ev l4 (by omega)).rounds
  have HZ := Aside0.mk hsz
  clear hsz
  have no : ∀ {x : Bool}, updOk a0 a1 l2 a3 l4 = x → x = false → r1 = [] ∧ r2 = false := fun hx he => by
    rw [updV_j a0 a1 l2 a3 l4 (hx.trans he)] at H0
    injection H0 with e1 e2
    exact ⟨e1.symm, e2.symm⟩
  cases g1 : isC a0 a1 with
  | false =>
    obtain ⟨rfl, rfl⟩ := no rfl (by unfold updOk; rw [g1]; rfl)
    rw [g1] at h1
    have H1 := Aside0.mk h1
    clear no H0 h1 h2 h6 g1
    go_enter Try.func61, Try.ntmps61
    go_wp2_with (go_at_call 128; refine (spec_l3Size.calls _ _ false _ H1.out).mono ?_; rintro e w' ⟨rfl, ⟨nd1, rfl⟩⟩)
    go_ret2
    exact ⟨_, rfl, Kd.S_nil _ _ _ _ _, by repeat (first | exact Below.refl _ _ | apply pw_below_drewN)⟩
  | true =>
    have hb := isC_bd g1
    rw [g1] at h1
    have H1 := Aside0.mk h1
    obtain ⟨⟨b1, b2⟩, b3, b4⟩ := hb
    cases g2 : areP l2 && decide ((l2.length : Int) = a0 + a1) with
    | false =>
      obtain ⟨rfl, rfl⟩ := no rfl (by unfold updOk; rw [g1, g2]; rfl)
      rw [g2] at h2
      have H2 := Aside0.mk h2
      clear no H0 h1 h2 h6 g1 g2
      go_enter Try.func61, Try.ntmps61
      go_wp2_with (first | (go_at_call 128; refine (spec_l3Size.calls _ _ true _ H1.out).mono ?_; rintro e w' ⟨rfl, ⟨nd1, rfl⟩⟩) | (go_at_call 129; refine (spec_l3Pieces.calls K2 _ c2 l2 _ false _ (Kd.C_drewN HR2.out _) HC2.out H2.out).mono ?_; rintro e w' ⟨rfl, ⟨nd2, rfl⟩⟩))
      go_ret2
      exact ⟨_, rfl, Kd.S_nil _ _ _ _ _, by repeat (first | exact Below.refl _ _ | apply pw_below_drewN)⟩
    | true =>
      rw [g2] at h2
      have H2 := Aside0.mk h2
      have g2b := g2
      rw [Bool.and_eq_true, decide_eq_true_eq] at g2b
      have hm : 0 < l2.length := by omega
      obtain ⟨ad, A1, c1, rfl, hx, hl1, hi1⟩ := Mx.rows_at HR2.out 0 hm hm
      have e0 : l2.getD 0 [] = l2[0] := by rw [List.getD_eq_getElem?_getD, List.getElem?_eq_getElem hm]; rfl
      rw [Addr.add_zero'] at hx
      have p0 := eq_true hm
      have p1 : (0 < (l2.length : Int)) = True := eq_true (by omega)
      have p2 : decide (0 < (l2.length : Int)) = true := decide_eq_true (by omega)
      have p3 : decide (0 < l2.length) = true := decide_eq_true hm
      by_cases g3 : 0 ≤ a3
      rotate_left
      · obtain ⟨rfl, rfl⟩ := no rfl (by unfold updOk; rw [g1, g2, decide_eq_false (by omega)]; rfl)
        generalize l2[0] = r0 at hx hl1 hi1
        have q3 : decide (a3 < 0) = true := decide_eq_true (by omega)
        clear no H0 h1 h2 h6 g1 g2 g2b g3 e0 hi1 hl1 hm
        go_enter Try.func61, Try.ntmps61
        go_wp2_with (first | (go_at_call 128; refine (spec_l3Size.calls _ _ true _ H1.out).mono ?_; rintro e w' ⟨rfl, ⟨nd1, rfl⟩⟩) | (go_at_call 129; refine (spec_l3Pieces.calls K2 _ c2 l2 _ true _ (Kd.C_drewN HR2.out _) HC2.out H2.out).mono ?_; rintro e w' ⟨rfl, ⟨nd2, rfl⟩⟩))
        go_ret2
        exact ⟨_, rfl, Kd.S_nil _ _ _ _ _, by repeat (first | exact Below.refl _ _ | apply pw_below_drewN)⟩
      have q3 : decide (a3 < 0) = false := decide_eq_false (by omega)
      by_cases g4 : a3 < a0
      rotate_left
      · obtain ⟨rfl, rfl⟩ := no rfl (by unfold updOk; rw [g1, g2, decide_eq_false (by omega)]; rfl)
        generalize l2[0] = r0 at hx hl1 hi1
        have q4 : decide (a0 ≤ a3) = true := decide_eq_true (by omega)
        have q4b : decide (a3 ≥ a0) = true := decide_eq_true (by omega)
        clear no H0 h1 h2 h6 g1 g2 g2b g3 g4 e0 hi1 hl1 hm
        go_enter Try.func61, Try.ntmps61
        go_wp2_with (first | (go_at_call 128; refine (spec_l3Size.calls _ _ true _ H1.out).mono ?_; rintro e w' ⟨rfl, ⟨nd1, rfl⟩⟩) | (go_at_call 129; refine (spec_l3Pieces.calls K2 _ c2 l2 _ true _ (Kd.C_drewN HR2.out _) HC2.out H2.out).mono ?_; rintro e w' ⟨rfl, ⟨nd2, rfl⟩⟩))
        go_ret2
        exact ⟨_, rfl, Kd.S_nil _ _ _ _ _, by repeat (first | exact Below.refl _ _ | apply pw_below_drewN)⟩
      have q4 : decide (a0 ≤ a3) = false := decide_eq_false (by omega)
      have q4b : decide (a3 ≥ a0) = false := decide_eq_false (by omega)
      have e3' : decide (0 ≤ a3 ∧ a3 < a0) = true := decide_eq_true ⟨g3, g4⟩
      by_cases g5 : l4.length = l2[0].length
      rotate_left
      · obtain ⟨rfl, rfl⟩ := no rfl (by unfold updOk; rw [g1, g2, e3', e0, decide_eq_false g5]; rfl)
        generalize l2[0] = r0 at hx hl1 hi1 g5
        have q5 : ((l4.length : Int) != (r0.length : Int)) = true := by rw [bne_iff_ne]; omega
        have q5b : (l4.length != r0.length) = true := by rw [bne_iff_ne]; exact g5
        clear no H0 h1 h2 h6 g1 g2 g2b g3 g4 g5 hm e0 hi1 hl1 e3'
        go_enter Try.func61, Try.ntmps61
        go_wp2_with (first | (go_at_call 128; refine (spec_l3Size.calls _ _ true _ H1.out).mono ?_; rintro e w' ⟨rfl, ⟨nd1, rfl⟩⟩) | (go_at_call 129; refine (spec_l3Pieces.calls K2 _ c2 l2 _ true _ (Kd.C_drewN HR2.out _) HC2.out H2.out).mono ?_; rintro e w' ⟨rfl, ⟨nd2, rfl⟩⟩))
        go_ret2
        exact ⟨_, rfl, Kd.S_nil _ _ _ _ _, by repeat (first | exact Below.refl _ _ | apply pw_below_drewN)⟩
      have e5 : decide (l4.length = (l2.getD 0 []).length) = true := by rw [e0]; exact decide_eq_true g5
      have q5 : ((l4.length : Int) != (l2[0].length : Int)) = false := by rw [g5]; simp
      have q5b : (l4.length != l2[0].length) = false := by rw [g5]; simp
      cases g6 : l4.all isB with
      | false =>
        obtain ⟨rfl, rfl⟩ := no rfl (by unfold updOk; rw [g1, g2, e3', e5, g6]; rfl)
        rw [g6] at h6
        have H6 := Aside0.mk h6
        generalize l2[0] = r0 at hx hl1 hi1 g5 q5 q5b
        clear no H0 h1 h2 h6 g1 g2 g2b g3 g4 g5 g6 hm e0 hi1 hl1 e3' e5
        go_enter Try.func61, Try.ntmps61
        go_wp2_with (first | (go_at_call 128; refine (spec_l3Size.calls _ _ true _ H1.out).mono ?_; rintro e w' ⟨rfl, ⟨nd1, rfl⟩⟩) | (go_at_call 129; refine (spec_l3Pieces.calls K2 _ c2 l2 _ true _ (Kd.C_drewN HR2.out _) HC2.out H2.out).mono ?_; rintro e w' ⟨rfl, ⟨nd2, rfl⟩⟩) | (go_at_call 100; refine (spec_l1All.calls K6 A4 c4 l4 false _ (Kd.C_drewN HR4.out _) HC4.out H6.out).mono ?_; rintro e w' ⟨rfl, ⟨nd3, rfl⟩⟩))
        go_ret2
        exact ⟨_, rfl, Kd.S_nil _ _ _ _ _, by repeat (first | exact Below.refl _ _ | apply pw_below_drewN)⟩
      | true =>
        have hok : updOk a0 a1 l2 a3 l4 = true := by unfold updOk; rw [g1, g2, e3', e5, g6]; rfl
        rw [updV_j a0 a1 l2 a3 l4 hok, if_pos rfl] at H0
        rw [g6] at h6
        have H6 := Aside0.mk h6
        injection H0 with H1a H2a
        subst H1a H2a
        obtain ⟨d, e, kk, c, m, q, rfl, rfl, rfl, hl2, hl4, hmB, hql, hq, z1, z2, z3, z4, z5, z6, z7⟩ := updOk_up hok
        generalize l2[0] = r0 at hx hl1 hi1 g5 q5 q5b
        clear no h1 h2 h6 g1 g2 g2b g3 g4 g5 g6 hm e0 hi1 hl1 e3' e5 hok
        have HH2 := Aside0.mk hl2
        have HH4 := Aside0.mk hl4
        clear hl2 hl4
        go_enter Try.func61, Try.ntmps61
        go_wp2_with (first | (go_at_call 128; refine (spec_l3Size.calls _ _ true _ H1.out).mono ?_; rintro e w' ⟨rfl, ⟨nd1, rfl⟩⟩) | (go_at_call 129; refine (spec_l3Pieces.calls K2 _ c2 l2 _ true _ (Kd.C_drewN HR2.out _) HC2.out H2.out).mono ?_; rintro e w' ⟨rfl, ⟨nd2, rfl⟩⟩) | (go_at_call 100; refine (spec_l1All.calls K6 A4 c4 l4 true _ (Kd.C_drewN HR4.out _) HC4.out H6.out).mono ?_; rintro e w' ⟨rfl, ⟨nd3, rfl⟩⟩))
        have HB := Aside0.mk (show kk < m.length ∧ m.length = d + e from ⟨by omega, z1⟩)
        have HM := Aside0.mk hmB
        have HQ := Aside0.mk (show q.length = c ∧ Poly.AllB q from ⟨hql, hq⟩)
        have HN := Aside0.mk (show d ≤ 6 ∧ e ≤ 4 ∧ c ≤ 32 ∧ kk < d from ⟨z4, z6, z7, z2⟩)
        have HLL := Aside0.mk (show l2.length = m.length from by rw [HH2.out, upM_length])
        clear b1 b2 b3 b4 z1 z2 z3 z4 z5 z6 z7 hmB hql hq
        obtain ⟨K7, h7⟩ := (spec_l3Matrix_ev d e (by have := HN.out; omega) (by have := HN.out; omega)).rounds
        obtain ⟨K8, h8⟩ := (spec_l2Own_ev l2 HZ.out.1 HZ.out.2.1).rounds
        have H7 := Aside0.mk h7
        have H8 := Aside0.mk h8
        clear h7 h8
        have ENV := Aside0.mk ((Env.Env.start (e := 28) (t := 3) w).drewN (nd1 + nd2 + nd3))
        refine (spec_l3Matrix.calls K7 _ _ (upM (codeM d e)) _ H7.out).mono ?_
        rintro e1 w1 ⟨v1, rfl, hN_, hb_⟩
        obtain ⟨B1, d1, rfl, hE_⟩ := ENV.out.madeN hN_ hb_
        replace ENV := Aside0.mk hE_
        clear hE_ hN_ hb_
        go_wp2_with fail
        refine (spec_l2Own.calls K8 (some ad) c2 l2 l2 _ (ENV.out.came HR2.out) HC2.out H8.out).mono ?_
        rintro e2 w2 ⟨v2, rfl, hS_, hb_⟩
        obtain ⟨B2, d2, rfl, hE_⟩ := ENV.out.madeS (by decide) hS_ hb_
        replace ENV := Aside0.mk hE_
        clear hE_ hS_ hb_
        have hkl : kk < l2.length := by have := HB.out; have := HLL.out; omega
        obtain ⟨ad', A3, c3, ead, hxk, hlk, hrk⟩ := Mx.rows_at HR2.out kk hkl hkl
        injection ead with ead
        subst ead
        have erow : l2[kk] = Poly.up (m.getD kk []) := by
          have h9 : (upM m).getD kk [] = Poly.up (m.getD kk []) := upM_getD m kk
          rw [← HH2.out, List.getD_eq_getElem?_getD, List.getElem?_eq_getElem hkl] at h9
          exact h9
        have hxk2 := pw_cell_below ENV.out.1 hxk
        have HRK := Aside0.mk hrk
        generalize l2[kk] = rk at hxk2 hlk HRK erow hxk hrk
        have HRL := Aside0.mk (show rk.length ≤ 32 by have h8 := (HM.out.get HB.out.1).1; have h9 := HN.out; rw [erow, Poly.up_length]; omega)
        have HEK := Aside0.mk erow
        clear erow
        have pk : ((kk : Int) < (l2.length : Int)) = True := eq_true (by omega)
        have pk2 : (kk < l2.length) = True := eq_true hkl
        have pk3 : (0 ≤ (kk : Int)) = True := eq_true (by omega)
        clear hx hxk hrk hkl q3 q4 q4b q5 q5b p0 p1 p2 p3
        go_wp2_with (first
          | ((with_reducible refine gate_dst (N := 56) rfl ?_); refine Kd.R_lit (Kd.int .i64) _ 3 ?hg (N := 56) ?hd (xs := ([] : List Int)) (inner := []) (ok := fun _ => True) (okp := fun _ => True) ?hr ?hp (fun _ hk => hk) trivial (Below.refl _ _) (Nat.le_refl _) (by simp) ?_; (case hd => rfl); (case hg => rfl); (case hr => first | (go_simp; done) | (go_simp; rfl)); (case hp => exact (Reps.none _ _)); intro v56 w56 ho56 hb56 _ _; have HO56 := Aside0.mk ho56; have HB56 := Aside0.mk hb56; have hxk3 := pw_cell_below hb56 hxk2; have HRK3 := Aside0.mk (Kd.C_below HRK.out (ENV.out.below hb56).1); clear ho56 hb56 hxk2)
          | ((with_reducible refine gate_builtin (b := .append) (xs := #[.tmp 56, .tmp 60]) rfl ?_); at_builtin; refine Kd.R_append_rows (Kd.int .i64) (w0 := w2) w2.heap.size rfl (.tmp 56) (.tmp 60) 28 3 (.int .i64 0) 8 rfl Try.underlying28 infoI rfl (by decide) (by omega) v56 [] rk _ _ _ (fun _ => True) (fun _ => False) rfl rfl ?aO ?aR (fun _ _ h => h) (fun _ h => h.elim) ?aF ?aB ?aS ?aL ?_; (case aO => exact HO56.out); (case aR => exact HRK3.out); (case aF => exact (fun _ _ => trivial)); (case aB => exact HB56.out); (case aS => exact HB56.out.size); (case aL => have h8 := HRL.out; simp only [List.length_nil]; omega); intro v60 w60 ho hb hg hat; have HO60 := Aside0.mk ho; have HB60 := Aside0.mk hb; clear ho hb hg hat hxk3; obtain ⟨B3, d3, rfl, hE3⟩ := ENV.out.madeR HO60.out HB60.out; have ENV3 := Aside0.mk hE3; clear hE3))
        have hE3 := ENV3.out
        rw [List.nil_append] at hE3
        obtain ⟨x0, hx0⟩ : ∃ x0, x0 = m.getD kk [] := ⟨_, rfl⟩
        have e9 := HEK.out
        rw [← hx0] at e9
        have e10 := HH4.out
        have e11 := HH2.out
        clear HEK HH2 HH4 ENV3 HO60 HB60 HO56 HB56
        subst e9 e10 e11
        have hxr := HM.out.get HB.out.1
        rw [← hx0] at hxr
        have HX0 := Aside0.mk hx0
        clear hx0
        refine (addRow_e hE3 0 rfl 1 A4 c4 1 rfl HR4.out HC4.out (by decide) hxr.2 HQ.out.2 (by rw [hxr.1, HQ.out.1]) (by have := HN.out; omega)).mono ?_
        rintro e3 w3 ⟨rfl, hE_⟩
        have hcl : (chg x0 q).length = c := by unfold chg; rw [Mat.radd_length _ (by rw [hxr.1, HQ.out.1])]; exact hxr.1
        have hlen : (Poly.up x0).length = (Poly.up (chg x0 q)).length := by rw [Poly.up_length, Poly.up_length, hcl, hxr.1]
        replace ENV := Aside0.mk (show Env.Env 28 3 w w3 [(.slice B3 (Poly.up (chg x0 q)).length d3, .row (Poly.up (chg x0 q))), (.slice B2 (upM m).length d2, .mat (upM m)), (.slice B1 (upM (codeM d e)).length d1, .ro (upM (codeM d e)))] by rw [← hlen]; exact hE_)
        rw [hlen]
        have HCL := Aside0.mk (show (chg x0 q).length = c ∧ Poly.AllB (chg x0 q) from ⟨hcl, chg_bytes hxr.2⟩)
        clear hE_ hE3 hcl hlen hxr HR2 HR4 HRK HRL hlk
        go_wp2
        go_loopg [67] m.length (fun gg v67 wr => ∃ i : Nat, i ≤ m.length ∧ m.length - i ≤ gg ∧ v67 = .int .i64 i ∧ Aside0 (Env.Env 28 3 w wr [(.slice B3 (Poly.up (chg x0 q)).length d3, .row (Poly.up (chg x0 q))), (.slice B2 (upM m).length d2, .mat (upM (updL (chg x0 q) ((Mat.col kk (codeM d e)).take i) (m.take i) ++ m.drop i))), (.slice B1 (upM (codeM d e)).length d1, .ro (upM (codeM d e)))]))
        case atStart => exact ⟨0, Nat.zero_le _, by omega, rfl, ⟨by have := ENV.out; simpa [updL] using this⟩⟩
        case round =>
          clear ENV
          obtain ⟨i, hi', hg, rfl, ENV⟩ := hrel
          by_cases hlt : i < m.length
          · have hcol : (Mat.col kk (codeM d e)).length = m.length := by rw [Mat.col_length, codeM_length, HB.out.2]
            have hul : (updL (chg x0 q) ((Mat.col kk (codeM d e)).take i) (m.take i)).length = i := by rw [updL_length _ (by simp only [List.length_take]; omega), List.length_take]; omega
            have hYl : (updL (chg x0 q) ((Mat.col kk (codeM d e)).take i) (m.take i) ++ m.drop i).length = m.length := by rw [List.length_append, hul, List.length_drop]; omega
            have hYi : (updL (chg x0 q) ((Mat.col kk (codeM d e)).take i) (m.take i) ++ m.drop i).getD i [] = m.getD i [] := by
              rw [List.getD_eq_getElem?_getD, List.getElem?_append_right (by omega), hul, Nat.sub_self, List.drop_eq_getElem_cons hlt, List.getD_eq_getElem?_getD, List.getElem?_eq_getElem hlt]; rfl
            obtain ⟨hrl, hrb⟩ := HM.out.get hlt
            have hf : (Mat.col kk (codeM d e)).getD i 0 < 256 := Poly.AllB.get (Mat.col_bytes (codeM_MB d e) kk) i
            have hset : (updL (chg x0 q) ((Mat.col kk (codeM d e)).take i) (m.take i) ++ m.drop i).set i (Mat.radd ((Mat.col kk (codeM d e)).getD i 0) (m.getD i []) (chg x0 q)) = updL (chg x0 q) ((Mat.col kk (codeM d e)).take (i + 1)) (m.take (i + 1)) ++ m.drop (i + 1) := by
              rw [List.set_append_right _ _ (by omega), hul, Nat.sub_self, List.drop_eq_getElem_cons hlt, List.set_cons_zero, List.take_succ_eq_append_getElem hlt, List.take_succ_eq_append_getElem (by omega : i < (Mat.col kk (codeM d e)).length), updL_snoc _ _ _ (by simp only [List.length_take]; omega), List.append_assoc, show m.getD i [] = m[i] by rw [List.getD_eq_getElem?_getD, List.getElem?_eq_getElem hlt]; rfl, show (Mat.col kk (codeM d e)).getD i 0 = (Mat.col kk (codeM d e))[i] by rw [List.getD_eq_getElem?_getD, List.getElem?_eq_getElem (by omega : i < (Mat.col kk (codeM d e)).length)]; rfl]
              rfl
            replace ENV := Aside0.mk (ENV.out.drewN 1)
            obtain ⟨g2, Au, cu, hA2, hcu, hfu, hg2, hcu2, hRu, hupd, hkeep⟩ := ENV.out.mrow (by decide) (j := 1) rfl (i := i) (by rw [upM_length, hYl]; exact hlt)
            rw [upM_getD, hYi] at hcu hcu2 hRu hupd hkeep
            obtain ⟨hcc, hCc⟩ := ENV.out.Cq (by decide) 2 (m := upM (codeM d e)) rfl rfl
            have hil : i < (upM (codeM d e)).length := by rw [upM_length, codeM_length]; have := HB.out; omega
            obtain ⟨ad1, A5, c5, rfl, hx5, hl5, hr5⟩ := Mx.rows_at hCc i hil hil
            have e5 : (upM (codeM d e))[i] = Poly.up ((codeM d e).getD i []) := by
              have h9 : (upM (codeM d e)).getD i [] = Poly.up ((codeM d e).getD i []) := upM_getD _ i
              rw [List.getD_eq_getElem?_getD, List.getElem?_eq_getElem hil] at h9
              exact h9
            have hcr := (codeM_MB d e).get (i := i) (by rw [upM_length] at hil; exact hil)
            rw [e5] at hx5 hl5 hr5
            obtain ⟨ad5, e6, hx6⟩ := Kd.at_int hr5 (kk : Int) (by omega) (by rw [Poly.up_length, hcr.1]; have := HN.out; omega)
            cases e6
            rw [Poly.rd_up, Int.toNat_natCast, ← Mat.col_at] at hx6
            have pc1 : ((kk : Int) < ((Poly.up ((codeM d e).getD i [])).length : Int)) = True := eq_true (by rw [Poly.up_length, hcr.1]; have := HN.out; omega)
            have pc2 : (kk < (Poly.up ((codeM d e).getD i [])).length) = True := eq_true (by rw [Poly.up_length, hcr.1]; have := HN.out; omega)
            have hrc : (m.getD i []).length = (chg x0 q).length := by rw [hrl, HCL.out.1]
            have hi1 : (i : Int) < ((upM m).length : Int) := by rw [upM_length]; omega
            have hi100 : (i : Int) < 100 := by have := HB.out; have := HN.out; omega
            have hi0 : 0 ≤ (i : Int) := by omega
            have p1 : decide ((i : Int) < ((upM m).length : Int)) = true := decide_eq_true hi1
            have p2 : decide (i < (upM m).length) = true := decide_eq_true (by omega)
            have p3 : ((i : Int) < ((upM m).length : Int)) = True := eq_true hi1
            have p4 : (i < (upM m).length) = True := eq_true (by omega)
            have p5 : ((i : Int) < ((upM (codeM d e)).length : Int)) = True := eq_true (by omega)
            have p6 : (i < (upM (codeM d e)).length) = True := eq_true hil
            have p7 : (0 ≤ (i : Int)) = True := eq_true (by omega)
            obtain ⟨K9, h9⟩ := (spec_l2Add_ev (m.getD i []) (chg x0 q) _ hf hrb HCL.out.2 hrc (by have := HN.out; omega)).rounds
            have hcall := spec_l2Add.calls K9 (fun k => some k = (Value.slice Au (Poly.up (m.getD i [])).length cu).ownBlock) (.slice Au (Poly.up (m.getD i [])).length cu) (Poly.up (m.getD i [])) B3 d3 (Poly.up (chg x0 q)) _ _ w (wr.drewN 1) ENV.out.1 hRu (fun W_ hk_ => by
              obtain ⟨lo_, hi_, hh_⟩ := hkeep W_ 0 _ _ (by decide) rfl hk_
              exact (Kd.R_reads' hh_).2.2) (ENV.out.capr 0 rfl) h9
            have HU := Aside0.mk hupd
            have HST := Aside0.mk hset
            generalize (Mat.col kk (codeM d e)).getD i 0 = f at hx6 hcall HST
            clear hupd hkeep hset hYl hYi hul hcol hCc hr5 e5 hcr hrc h9 hf hRu hfu hrl hrb hcc hil hi1 hl5
            generalize (codeM d e).getD i [] = cr at hx5 pc1 pc2
            generalize m.getD i [] = mi at hcu hcall HU HST
            subst hA2
            have hcu0 : wr.cell? ⟨g2, i, none⟩ = some (.slice Au (Poly.up mi).length cu) := hcu
            have hx50 : wr.cell? (ad1.add i) = some (.slice (some ad5) (Poly.up cr).length c5) := hx5
            have hx60 : wr.cell? (ad5.add kk) = some (.int .i64 (f : Int)) := hx6
            go_wp2_with fail
            go_still_tail 12, (by kernel_rfl)
            change wpList _ _ _ _ _ (wr.drewN 1)
            go_wp2_with fail
            refine hcall.mono ?_
            rintro e9 w9 ⟨rfl, hR9, hb9, hk9⟩
            have hE9 := HU.out w9 _ hb9 hk9 hR9
            rw [upM_set, HST.out] at hE9
            replace ENV := Aside0.mk hE9
            clear hE9 hR9 hb9 hk9 HU HST hcall
            go_wp2
            go_roundg (m.length - (i + 1))
            case measure => omega
            case rel => exact ⟨i + 1, by omega, by omega, by go_num, ENV⟩
          · obtain rfl : i = m.length := by omega
            have p1 : decide ((m.length : Int) < ((upM m).length : Int)) = false := decide_eq_false (by rw [upM_length]; omega)
            have p2 : decide (m.length < (upM m).length) = false := decide_eq_false (by rw [upM_length]; omega)
            have hcol : (Mat.col kk (codeM d e)).length = m.length := by rw [Mat.col_length, codeM_length, HB.out.2]
            have eU : updL (chg x0 q) ((Mat.col kk (codeM d e)).take m.length) (m.take m.length) ++ m.drop m.length = updM d e m kk q := by
              rw [List.take_length, List.drop_length, List.append_nil, ← hcol, List.take_length, HX0.out]; rfl
            have hE9 := ENV.out
            rw [eU] at hE9
            have eR : upM (updM (d : Int).toNat (e : Int).toNat (dnM (upM m)) (kk : Int).toNat ((Poly.up q).map Int.toNat)) = upM (updM d e m kk q) := by rw [dnM_upM, dn_up, Int.toNat_natCast, Int.toNat_natCast, Int.toNat_natCast]
            obtain ⟨lo_, hi_, hlo_, _, ⟨vs_, hM_⟩, _⟩ := hE9.turn 1 rfl
            have hS_ := Kd.S_mono (ok' := fun _ => True) (Kd.S_lower (hM_.S (by decide)) hlo_) (fun _ _ => trivial)
            rw [← eR] at hS_
            have HS_ := Aside0.mk hS_
            have HBE := Aside0.mk hE9.1
            clear hS_ hE9 hM_ eR eU hcol
            go_wp2
            go_ret2
            exact ⟨_, rfl, HS_.out, HBE.out⟩

set_option maxHeartbeats 8000000 in
set_option maxRecDepth 100000 in
theorem laws_FnExactUpdatePiece_calls (a0 : Int) (a1 : Int) (A2 : Option Addr) (c2 : Nat) (l2 : List (List Int)) (a3 : Int) (A4 : Option Addr) (c4 : Nat) (l4 : List Int) (w : World) (hw0 : (Lit.int .i64 a0).wf = true) (hw1 : (Lit.int .i64 a1).wf = true) (hr2 : Kd.C (Kd.slice 3 (Kd.int .i64)) w A2 l2.length l2) (hc2 : l2.length ≤ c2) (hw2 : ∀ r ∈ l2, ∀ x ∈ r, (Lit.int .i64 x).wf = true) (hw3 : (Lit.int .i64 a3).wf = true) (hr4 : (Kd.int .i64).C w A4 l4.length l4) (hc4 : l4.length ≤ c4) (y4 : l4.length * 8 ≤ 140737488351232) (hw4 : ∀ x ∈ l4, (Lit.int .i64 x).wf = true) :
    Calls Try.prog 10 #[.int .i64 a0, .int .i64 a1, .slice A2 l2.length c2, .int .i64 a3, .slice A4 l4.length c4] w fun e w' => e = .returned (.bool true) ∧ Below w.heap.size w w' := by
  have HG0 := Aside0.mk hw0
  clear hw0
  have HG1 := Aside0.mk hw1
  clear hw1
  have HR2 := Aside0.mk hr2
  have HC2 := Aside0.mk hc2
  have HG2 := Aside0.mk hw2
  clear hr2 hc2 hw2
  have HG3 := Aside0.mk hw3
  clear hw3
  have HR4 := Aside0.mk hr4
  have HC4 := Aside0.mk hc4
  have HG4 := Aside0.mk hw4
  clear hr4 hc4 hw4
  clear y4
  have ENV := Aside0.mk (Env.Env.start (e := 28) (t := 3) w)
  by_cases g4 : l4.length ≤ 1048576
  rotate_left
  · have t4 : decide (1048576 < (l4.length : Int)) = true := decide_eq_true (by omega)
    have t4b : decide (1048576 < l4.length) = true := decide_eq_true (by omega)
    clear g4
    go_enter Try.func10, Try.ntmps10
    go_wp2
    go_ret
    exact ⟨rfl, ENV.out.1⟩
  have t4 : decide (1048576 < (l4.length : Int)) = false := decide_eq_false (by omega)
  have t4b : decide (1048576 < l4.length) = false := decide_eq_false (by omega)
  have HL4 := Aside0.mk g4
  clear g4
  have HZ2 := Aside0.mk (show (0 : Int) ≤ (1048576 : Int) ∧ (1048576 : Int) ≤ 1048576 by decide)
  by_cases s2 : (1048576 : Int) < ((l2.length + tot l2 : Nat) : Int)
  · have HV2 := Aside0.mk (szV_big s2)
    clear s2
    go_enter Try.func10, Try.ntmps10
    go_wp2_with fail
    refine (sz_c A2 c2 l2 _ _ (ENV.out.came HR2.out) HC2.out HZ2.out.1 HZ2.out.2).mono ?_
    rintro e w1 ⟨he_, hb_⟩
    rw [HV2.out] at he_
    subst he_
    replace ENV := Aside0.mk (ENV.out.below hb_)
    clear hb_
    go_wp2
    go_ret
    exact ⟨rfl, ENV.out.1⟩
  obtain ⟨z2, hz2⟩ : ∃ z : Int, z = szV l2 (1048576 : Int) := ⟨_, rfl⟩
  have HV2 := Aside0.mk hz2.symm
  have hz2' := hz2
  rw [szV_ok s2] at hz2'
  have HN2 := Aside0.mk (show 0 ≤ z2 ∧ z2 ≤ (1048576 : Int) ∧ l2.length + tot l2 ≤ 1048576 by have := HZ2.out; omega)
  have q2 : decide (z2 < 0) = false := decide_eq_false (by have := HN2.out; omega)
  have HS2 := Aside0.mk (small_rows HN2.out.2.2)
  clear s2 hz2 hz2'
  have h91 := (show spec_UpdatePiece.f a0 a1 l2 a3 l4 = some (updV a0 a1 l2 a3 l4) from if_pos ⟨by have := HS2.out.1; omega, fun r h => by have := HS2.out.2.1 r h; omega, HL4.out⟩)
  obtain ⟨K92, h92⟩ := (impl_UpdatePiece_ev a0 a1 l2 a3 l4 HL4.out).rounds
  have hsm := le_small (updV_small a0 a1 l2 a3 l4)
  generalize updV a0 a1 l2 a3 l4 = g at h91 h92 hsm
  obtain ⟨r0, r1⟩ := g
  obtain ⟨hl_, hq_⟩ : r0.length ≤ 1000 ∧ ∀ r ∈ r0, r.length ≤ 1000 := hsm
  have hT_ := tot_le hq_
  have HP := Aside0.mk (show r0.length ≤ 1048576 ∧ (∀ r ∈ r0, r.length ≤ 1048576) ∧ tot r0 ≤ 1000000 from ⟨by omega, fun r h => by have := hq_ r h; omega, by have := Nat.mul_le_mul_right 1000 hl_; omega⟩)
  clear hl_ hq_ hT_
  have cc91 := fun A2_ c2_ A4_ c4_ w_ h2_ b2_ h4_ b4_ => spec_UpdatePiece.calls a0 a1 A2_ c2_ l2 a3 A4_ c4_ l4 r0 r1 w_ h2_ b2_ h4_ b4_ h91
  have cc92 := fun A2_ c2_ A4_ c4_ w_ h2_ b2_ h4_ b4_ => impl_UpdatePiece.calls K92 a0 a1 A2_ c2_ l2 a3 A4_ c4_ l4 r0 r1 w_ h2_ b2_ h4_ b4_ h92
  have e1 : (r1 != r1) = false := by simp
  have e1b : (r1 == r1) = true := by simp
  clear h91 h92
  obtain ⟨k2, hk2⟩ : ∃ n : Nat, n = 1 + tot l2 := ⟨_, rfl⟩
  have HK2 := Aside0.mk hk2
  clear hk2
  have HKB2 := Aside0.mk (show k2 ≤ 1048577 by have := HK2.out; have := HS2.out.2.2; omega)
  obtain ⟨k4, hk4⟩ : ∃ n : Nat, n = k2 + l4.length := ⟨_, rfl⟩
  have HK4 := Aside0.mk hk4
  clear hk4
  have HKB4 := Aside0.mk (show k4 ≤ 2097153 by have := HK4.out; have := HL4.out; have := HKB2.out; omega)
  have qk : decide ((k4 : Int) < 0) = false := decide_eq_false (by omega)
  obtain ⟨kg, hkg⟩ : ∃ n : Nat, n = 1 + tot r0 := ⟨_, rfl⟩
  have HKG := Aside0.mk hkg
  have HKGB := Aside0.mk (show kg ≤ 2000000 by have := HP.out.2.2; omega)
  clear hkg
  have qg : decide ((kg : Int) < 0) = false := decide_eq_false (by omega)
  have qg2 : ((kg : Int) != (kg : Int)) = false := by simp
  have qg3 : ((kg : Int) == (kg : Int)) = true := by simp
  go_enter Try.func10, Try.ntmps10
  go_wp2_with fail
  refine (sz_c A2 c2 l2 _ _ (ENV.out.came HR2.out) HC2.out HZ2.out.1 HZ2.out.2).mono ?_
  rintro e wz2 ⟨he_, hb_⟩
  rw [HV2.out] at he_
  subst he_
  replace ENV := Aside0.mk (ENV.out.below hb_)
  clear hb_
  go_wp2_with fail
  refine (toSS_e ENV.out A2 c2 l2 HR2.out HC2.out HS2.out.1 HS2.out.2.1).mono ?_
  rintro e w1 ⟨B1, d1, rfl, hE_⟩
  replace ENV := Aside0.mk hE_
  clear hE_
  go_wp2_with fail
  refine (toS_e ENV.out A4 c4 l4 HR4.out HC4.out HL4.out).mono ?_
  rintro e w2 ⟨B2, d2, rfl, hE_⟩
  replace ENV := Aside0.mk hE_
  clear hE_
  go_wp2_with fail
  refine (cc91 B1 d1 B2 d2 _ (ENV.out.C (A := B1) (n := l2.length) (c := d1) (by decide) 1 rfl) (ENV.out.cap (A := B1) (n := l2.length) (c := d1) (by decide) 1 rfl) (ENV.out.Cr (A := B2) (n := l4.length) (c := d2) 0 rfl) (ENV.out.capr (A := B2) (n := l4.length) (c := d2) 0 rfl)).mono ?_
  rintro e w3 ⟨v_, rfl, hS_, hb_⟩
  obtain ⟨B3, d3, rfl, hE_⟩ := ENV.out.madeS (by decide) hS_ hb_
  clear hS_ hb_
  replace ENV := Aside0.mk hE_
  clear hE_
  go_wp2_with fail
  refine (toSS_e ENV.out A2 c2 l2 HR2.out HC2.out HS2.out.1 HS2.out.2.1).mono ?_
  rintro e w4 ⟨B4, d4, rfl, hE_⟩
  replace ENV := Aside0.mk hE_
  clear hE_
  go_wp2_with fail
  refine (toS_e ENV.out A4 c4 l4 HR4.out HC4.out HL4.out).mono ?_
  rintro e w5 ⟨B5, d5, rfl, hE_⟩
  replace ENV := Aside0.mk hE_
  clear hE_
  go_wp2_with fail
  refine (cc92 B4 d4 B5 d5 _ (ENV.out.C (A := B4) (n := l2.length) (c := d4) (by decide) 1 rfl) (ENV.out.cap (A := B4) (n := l2.length) (c := d4) (by decide) 1 rfl) (ENV.out.Cr (A := B5) (n := l4.length) (c := d5) 0 rfl) (ENV.out.capr (A := B5) (n := l4.length) (c := d5) 0 rfl)).mono ?_
  rintro e w6 ⟨v_, rfl, hS_, hb_⟩
  obtain ⟨B6, d6, rfl, hE_⟩ := ENV.out.madeS (by decide) hS_ hb_
  clear hS_ hb_
  replace ENV := Aside0.mk hE_
  clear hE_
  go_wp2_with fail
  refine (eqSS_e ENV.out 0 3 (A1 := B6) (A2 := B3) (c1 := d6) (c2 := d3) rfl rfl rfl rfl HP.out.1 HP.out.2.1).mono ?_
  rintro e w7 ⟨rfl, hE_⟩
  replace ENV := Aside0.mk hE_
  clear hE_
  go_wp2_with fail
  refine (toSS_e ENV.out A2 c2 l2 HR2.out HC2.out HS2.out.1 HS2.out.2.1).mono ?_
  rintro e w8 ⟨B8, d8, rfl, hE_⟩
  replace ENV := Aside0.mk hE_
  clear hE_
  go_wp2_with fail
  refine (eqSS_e ENV.out 3 0 (A1 := B4) (A2 := B8) (c1 := d4) (c2 := d8) rfl rfl rfl rfl HS2.out.1 HS2.out.2.1).mono ?_
  rintro e w9 ⟨rfl, hE_⟩
  replace ENV := Aside0.mk hE_
  clear hE_
  go_wp2_with fail
  refine (toS_e ENV.out A4 c4 l4 HR4.out HC4.out HL4.out).mono ?_
  rintro e w10 ⟨B10, d10, rfl, hE_⟩
  replace ENV := Aside0.mk hE_
  clear hE_
  go_wp2_with fail
  refine (eqS_e ENV.out 3 0 (A1 := B5) (A2 := B10) (c1 := d5) (c2 := d10) rfl rfl HL4.out).mono ?_
  rintro e w11 ⟨rfl, hE_⟩
  replace ENV := Aside0.mk hE_
  clear hE_
  go_wp2_with fail
  refine (markSS_e ENV.out 4 (A := B4) (c := d4) rfl 1 _ rfl k2 HK2.out HS2.out.1 HS2.out.2.1 (by have := HKB2.out; omega)).mono ?_
  rintro e w12 ⟨rfl, hE_⟩
  replace ENV := Aside0.mk hE_
  clear hE_
  go_wp2_with fail
  refine (markS_e ENV.out 3 (A := B5) (c := d5) rfl k2 _ rfl k4 HK4.out HL4.out (by have := HKB4.out; omega)).mono ?_
  rintro e w13 ⟨rfl, hE_⟩
  replace ENV := Aside0.mk hE_
  clear hE_
  go_wp2_with fail
  refine (eqSS_e ENV.out 2 5 (A1 := B6) (A2 := B3) (c1 := d6) (c2 := d3) rfl rfl rfl rfl HP.out.1 HP.out.2.1).mono ?_
  rintro e w14 ⟨rfl, hE_⟩
  replace ENV := Aside0.mk hE_
  clear hE_
  go_wp2_with fail
  refine (markSS_e ENV.out 2 (A := B6) (c := d6) rfl 1 _ rfl kg HKG.out HP.out.1 HP.out.2.1 (by have := HKGB.out; omega)).mono ?_
  rintro e w15 ⟨rfl, hE_⟩
  replace ENV := Aside0.mk hE_
  clear hE_
  go_wp2_with fail
  refine (heldSS_e ENV.out 2 (A := B6) (c := d6) (m := r0) 1 rfl _ rfl kg HKG.out HP.out.1 (by have := HKGB.out; omega)).mono ?_
  rintro e w16 ⟨rfl, hE_⟩
  replace ENV := Aside0.mk hE_
  clear hE_
  go_wp2_with fail
  refine (toSS_e ENV.out A2 c2 l2 HR2.out HC2.out HS2.out.1 HS2.out.2.1).mono ?_
  rintro e w17 ⟨B17, d17, rfl, hE_⟩
  replace ENV := Aside0.mk hE_
  clear hE_
  go_wp2_with fail
  refine (toS_e ENV.out A4 c4 l4 HR4.out HC4.out HL4.out).mono ?_
  rintro e w18 ⟨B18, d18, rfl, hE_⟩
  replace ENV := Aside0.mk hE_
  clear hE_
  go_wp2_with fail
  refine (cc92 B17 d17 B18 d18 _ (ENV.out.C (A := B17) (n := l2.length) (c := d17) (by decide) 1 rfl) (ENV.out.cap (A := B17) (n := l2.length) (c := d17) (by decide) 1 rfl) (ENV.out.Cr (A := B18) (n := l4.length) (c := d18) 0 rfl) (ENV.out.capr (A := B18) (n := l4.length) (c := d18) 0 rfl)).mono ?_
  rintro e w19 ⟨v_, rfl, hS_, hb_⟩
  obtain ⟨B19, d19, rfl, hE_⟩ := ENV.out.madeS (by decide) hS_ hb_
  clear hS_ hb_
  replace ENV := Aside0.mk hE_
  clear hE_
  go_wp2_with fail
  refine (eqSS_e ENV.out 0 8 (A1 := B19) (A2 := B3) (c1 := d19) (c2 := d3) rfl rfl rfl rfl HP.out.1 HP.out.2.1).mono ?_
  rintro e w20 ⟨rfl, hE_⟩
  replace ENV := Aside0.mk hE_
  clear hE_
  go_wp2_with fail
  refine (heldSS_e ENV.out 5 (A := B6) (c := d6) (m := r0) 1 rfl _ rfl kg HKG.out HP.out.1 (by have := HKGB.out; omega)).mono ?_
  rintro e w21 ⟨rfl, hE_⟩
  replace ENV := Aside0.mk hE_
  clear hE_
  go_wp2
  go_ret
  exact ⟨rfl, ENV.out.1⟩

end Go.Proofs.Ytncgojfhaagkkaa.Pure
