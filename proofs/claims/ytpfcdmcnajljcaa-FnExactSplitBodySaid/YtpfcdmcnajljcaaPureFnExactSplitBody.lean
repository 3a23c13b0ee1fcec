/- SplitBody answers as the reference's SplitBody does, for all texts, in memory of its own. No conditions beyond the row's own. -/
import Derived.Test.YtpfcdmcnajljcaaPFnExactSplitBodyx2
import Derived.Test.YtpfcdmcnajljcaaBit
set_option linter.unusedVariables false
set_option linter.unusedSimpArgs false
namespace Go.Proofs.Ytpfcdmcnajljcaa.Pure
open Go.RowKit Go.Proofs.Ytpfcdmcnajljcaa Go.Proofs.Ytpfcdmcnajljcaa.PFnExactSplitBody Go.Proofs.YtpfcdmcnajljcaaW.PrintWords Go.Proofs.YtpfcdmcnajljcaaW.PrintLast Go.Proofs.Ytpfcdmcnajljcaa.Bit

theorem spec_l1In_eq (a b c : Int) : spec_l1In.f a b c = some (decide (b ≤ a ∧ a ≤ c)) := by
  unfold spec_l1In.f
  by_cases h : a ≥ b
  · rw [if_pos h]; congr 1; simp [show b ≤ a from h]
  · rw [if_neg h]; congr 1; simp; omega

theorem rdOf_nat {α : Type} (d : α) (l : List α) (i : Nat) (h : i < l.length) : rdOf d l (i : Int) = l[i] := by
  unfold rdOf
  simp [List.getD_eq_getElem?_getD, List.getElem?_eq_getElem h]
theorem wrap_succ2 (i : Nat) (h : i < 9223372036854775807) : wrap64 ((i : Int) + 1) = ((i + 1 : Nat) : Int) := by rw [wrap_id (by omega) (by omega)]; omega

/-- The pieces of a text: so many at the most. -/
def splitL : Nat → ByteArray → List ByteArray
  | 0, s => [s]
  | f + 1, s => if 16 < s.size then s.extract 0 16 :: splitL f (s.extract 16 s.size) else [s]
theorem splitL_length : ∀ f s, (splitL f s).length ≤ f + 1
  | 0, _ => by simp [splitL]
  | f + 1, s => by
    unfold splitL
    have := splitL_length f (s.extract 16 s.size)
    split <;> simp <;> omega
/-- What SplitBody answers. -/
def splitV (s : ByteArray) : List ByteArray × Bool := if 1 ≤ s.size ∧ s.size ≤ 160 then (splitL 10 s, true) else ([], false)
theorem splitV_length (s : ByteArray) : (splitV s).1.length ≤ 11 := by
  unfold splitV
  split
  · exact splitL_length 10 s
  · simp

theorem spec_SplitBody_l0 : ∀ (f : Nat) (s : ByteArray) (acc : List ByteArray), s.size ≤ 16 * f → acc.length + f ≤ 100 → Ev (fun k => spec_SplitBody.l0 k s acc) (acc ++ splitL f s, true) := by
  intro f
  induction f with
  | zero =>
    intro s acc hs ha
    exact Ev.step (f := fun _ => some (acc ++ [s], true)) (fun k => by simp only [spec_SplitBody.l0]; rw [if_neg (by omega), if_pos (by omega)]) (Ev.now _)
  | succ f ih =>
    intro s acc hs ha
    unfold splitL
    by_cases h : 16 < s.size
    · rw [if_pos h]
      have := ih (s.extract 16 s.size) (acc ++ [s.extract 0 16]) (by simp only [ByteArray.size_extract]; omega) (by simp; omega)
      rw [List.append_assoc] at this
      refine Ev.step (f := fun k => spec_SplitBody.l0 k (s.extract 16 s.size) (acc ++ [s.extract 0 16])) (fun k => ?_) this
      simp only [spec_SplitBody.l0]
      rw [if_pos (by omega), if_pos (by omega), if_pos (by omega), if_pos (by omega)]
    · rw [if_neg h]
      exact Ev.step (f := fun _ => some (acc ++ [s], true)) (fun k => by simp only [spec_SplitBody.l0]; rw [if_neg (by omega), if_pos (by omega)]) (Ev.now _)
theorem spec_SplitBody_ev (s : ByteArray) : Ev (fun k => spec_SplitBody.f k s) (splitV s) := by
  unfold spec_SplitBody.f splitV
  simp only [spec_l1In_eq, Option.bind_some]
  by_cases h : 1 ≤ s.size ∧ s.size ≤ 160
  · have z : (1 : Int) ≤ (s.size : Int) ∧ (s.size : Int) ≤ 160 := by omega
    rw [if_pos h]
    simp only [decide_eq_true z, if_true]
    have := spec_SplitBody_l0 10 s [] (by omega) (by simp)
    simpa using this
  · have z : ¬ ((1 : Int) ≤ (s.size : Int) ∧ (s.size : Int) ≤ 160) := by omega
    rw [if_neg h]
    simp only [decide_eq_false z]
    exact Ev.now _

theorem impl_within_eq (a b c : Int) : impl_within.f a b c = some (decide (b ≤ a ∧ a ≤ c)) := by
  unfold impl_within.f
  by_cases h : a ≥ b
  · rw [if_pos h]; congr 1; simp [show b ≤ a from h]
  · rw [if_neg h]; congr 1; simp; omega

theorem impl_SplitBody_l0 : ∀ (f : Nat) (s : ByteArray) (acc : List ByteArray), s.size ≤ 16 * f → acc.length + f ≤ 100 → Ev (fun k => impl_SplitBody.l0 k s acc) (acc ++ splitL f s, true) := by
  intro f
  induction f with
  | zero =>
    intro s acc hs ha
    exact Ev.step (f := fun _ => some (acc ++ [s], true)) (fun k => by simp only [impl_SplitBody.l0]; rw [if_neg (by omega), if_pos (by omega)]) (Ev.now _)
  | succ f ih =>
    intro s acc hs ha
    unfold splitL
    by_cases h : 16 < s.size
    · rw [if_pos h]
      have := ih (s.extract 16 s.size) (acc ++ [s.extract 0 16]) (by simp only [ByteArray.size_extract]; omega) (by simp; omega)
      rw [List.append_assoc] at this
      refine Ev.step (f := fun k => impl_SplitBody.l0 k (s.extract 16 s.size) (acc ++ [s.extract 0 16])) (fun k => ?_) this
      simp only [impl_SplitBody.l0]
      rw [if_pos (by omega), if_pos (by omega), if_pos (by omega), if_pos (by omega)]
    · rw [if_neg h]
      exact Ev.step (f := fun _ => some (acc ++ [s], true)) (fun k => by simp only [impl_SplitBody.l0]; rw [if_neg (by omega), if_pos (by omega)]) (Ev.now _)
theorem impl_SplitBody_ev (s : ByteArray) : Ev (fun k => impl_SplitBody.f k s) (splitV s) := by
  unfold impl_SplitBody.f splitV
  simp only [impl_within_eq, Option.bind_some]
  by_cases h : 1 ≤ s.size ∧ s.size ≤ 160
  · have z : (1 : Int) ≤ (s.size : Int) ∧ (s.size : Int) ≤ 160 := by omega
    rw [if_pos h]
    simp only [decide_eq_true z, if_true]
    have := impl_SplitBody_l0 10 s [] (by omega) (by simp)
    simpa using this
  · have z : ¬ ((1 : Int) ≤ (s.size : Int) ∧ (s.size : Int) ≤ 160) := by omega
    rw [if_neg h]
    simp only [decide_eq_false z]
    exact Ev.now _

theorem bytes_ext {a b : ByteArray} (h : a.toList = b.toList) : a = b := by
  rw [Go.ByteArray.toList_eq, Go.ByteArray.toList_eq] at h
  cases a; cases b
  simp only [ByteArray.mk.injEq]
  exact Array.toList_inj.1 h
theorem laws_eqStringS_l0 (l m : List ByteArray) (hlm : l.length = m.length) (hl : l.length ≤ 140737488351232) : ∀ d i : Nat, i + d = l.length → Ev (fun k => laws_eqStringS.l0 k l m (i : Int)) (decide (l.drop i = m.drop i)) := by
  intro d
  induction d with
  | zero =>
    intro i hi
    obtain rfl : i = l.length := by omega
    have e : decide (l.drop l.length = m.drop l.length) = true := by
      have e2 : m.drop l.length = [] := by rw [hlm, List.drop_length]
      rw [e2, List.drop_length]; rfl
    rw [e]
    exact Ev.step (f := fun _ => some true) (fun k => by simp only [laws_eqStringS.l0]; rw [if_neg (by omega)]) (Ev.now _)
  | succ d ih =>
    intro i hi
    have hlt : i < l.length := by omega
    have hlt2 : i < m.length := by omega
    rw [List.drop_eq_getElem_cons hlt, List.drop_eq_getElem_cons hlt2]
    by_cases e : l[i] = m[i]
    · have : decide (l[i] :: l.drop (i + 1) = m[i] :: m.drop (i + 1)) = decide (l.drop (i + 1) = m.drop (i + 1)) := by simp only [List.cons.injEq, e, true_and]
      rw [this]
      refine Ev.step (f := fun k => laws_eqStringS.l0 k l m ((i + 1 : Nat) : Int)) (fun k => ?_) (ih (i + 1) (by omega))
      simp only [laws_eqStringS.l0, rdOf_nat _ l i hlt, rdOf_nat _ m i hlt2, wrap_succ2 i (by omega)]
      rw [if_pos (by omega), if_pos (by omega), if_pos (by omega), if_pos (by rw [e])]
    · have : decide (l[i] :: l.drop (i + 1) = m[i] :: m.drop (i + 1)) = false := by simp only [List.cons.injEq, e, false_and, decide_false]
      rw [this]
      refine Ev.step (f := fun k => some false) (fun k => ?_) (Ev.now _)
      simp only [laws_eqStringS.l0, rdOf_nat _ l i hlt, rdOf_nat _ m i hlt2, wrap_succ2 i (by omega)]
      rw [if_pos (by omega), if_pos (by omega), if_pos (by omega), if_neg (fun h => e (bytes_ext h))]
theorem laws_eqStringS_ev (l m : List ByteArray) (hl : l.length ≤ 140737488351232) : Ev (fun k => laws_eqStringS.f k l m) (decide (l = m)) := by
  unfold laws_eqStringS.f
  by_cases h : l.length = m.length
  · simp only [if_pos (show (l.length : Int) = (m.length : Int) by omega)]
    exact laws_eqStringS_l0 l m h hl l.length 0 (by omega)
  · simp only [if_neg (show ¬ (l.length : Int) = (m.length : Int) by omega)]
    have : decide (l = m) = false := by simp only [decide_eq_false_iff_not]; rintro rfl; exact h rfl
    rw [this]
    exact Ev.now _

/-- The text of a mark: so many digits at the most. -/
def mtF : Nat → Nat → ByteArray → ByteArray
  | 0, _, acc => (⟨#[109]⟩ : ByteArray) ++ acc
  | f + 1, n, acc => if n = 0 then (⟨#[109]⟩ : ByteArray) ++ acc else mtF f (n / 10) (strOfNums [(wrap64 (48 + (Int.tmod (n : Int) 10))) % 256] ++ acc)
def mt (n : Nat) : ByteArray := if n = 0 then (⟨#[109, 48]⟩ : ByteArray) else mtF 20 n ⟨#[]⟩
theorem strOfNums_one (x : Int) : (strOfNums [x]).size = 1 := by simp [strOfNums, ByteArray.size]
theorem laws_markText_l0 : ∀ (f n : Nat) (acc : ByteArray), n < 10 ^ f → f ≤ 20 → acc.size ≤ 1000 * (21 - f) → n ≤ 2000000000 → Ev (fun k => laws_markText.l0 k (n : Int) acc) (mtF f n acc) := by
  have stop : ∀ acc : ByteArray, acc.size ≤ 100000 → Ev (fun k => laws_markText.l0 k ((0 : Nat) : Int) acc) ((⟨#[109]⟩ : ByteArray) ++ acc) := fun acc h =>
    Ev.step (f := fun _ => some ((⟨#[109]⟩ : ByteArray) ++ acc)) (fun k => by simp only [laws_markText.l0]; rw [if_neg (by omega), if_pos (by omega)]) (Ev.now _)
  intro f
  induction f with
  | zero =>
    intro n acc hn _ ha _
    obtain rfl : n = 0 := by simpa using hn
    exact stop acc (by omega)
  | succ f ih =>
    intro n acc hn hf ha hb
    by_cases h0 : n = 0
    · subst h0
      exact stop acc (by omega)
    · unfold mtF
      rw [if_neg h0]
      have hd : wrap64 (Int.tdiv (n : Int) 10) = ((n / 10 : Nat) : Int) := by
        have : Int.tdiv (n : Int) 10 = ((n / 10 : Nat) : Int) := rfl
        rw [this]
        exact wrap_id (by omega) (by omega)
      have hs : (strOfNums [(wrap64 (48 + (Int.tmod (n : Int) 10))) % 256] ++ acc).size ≤ 1000 * (21 - f) := by
        rw [ByteArray.size_append, strOfNums_one]; omega
      refine Ev.step (f := fun k => laws_markText.l0 k ((n / 10 : Nat) : Int) (strOfNums [(wrap64 (48 + (Int.tmod (n : Int) 10))) % 256] ++ acc)) (fun k => ?_) (ih _ _ (by rw [Nat.pow_succ] at hn; omega) (by omega) hs (by omega))
      simp only [laws_markText.l0, Option.bind_some, hd]
      rw [if_pos (by omega), if_pos (by rw [strOfNums_one]; omega)]
theorem laws_markText_ev (n : Nat) (h : n ≤ 2000000000) : Ev (fun k => laws_markText.f k (n : Int)) (mt n) := by
  unfold laws_markText.f mt
  by_cases h0 : n = 0
  · subst h0
    exact Ev.now _
  · have z : ¬ (n : Int) ≤ 0 := by omega
    simp only [if_neg z, if_neg h0]
    exact laws_markText_l0 20 n _ (by omega) (by omega) (by simp [ByteArray.size]) h

/-- The marks m, m + 1, .., n of them. -/
def tmarks (m n : Nat) : List ByteArray := (List.range n).map fun j => mt (m + j)
theorem tmarks_length (m n : Nat) : (tmarks m n).length = n := by simp [tmarks]
theorem tmarks_succ (m n : Nat) : tmarks m (n + 1) = tmarks m n ++ [mt (m + n)] := by simp [tmarks, List.range_succ]
theorem tmarks_get (m n i : Nat) (h : i < (tmarks m n).length) : (tmarks m n)[i] = mt (m + i) := by simp [tmarks]

theorem laws_markStringS_l0 (l : List ByteArray) (m : Nat) (hl : l.length ≤ 1048576) (hm : m ≤ 1000000000) : ∀ d i : Nat, i + d = l.length → Ev (fun k => laws_markStringS.l0 k (tmarks m i ++ l.drop i) ((m + i : Nat) : Int) (i : Int)) (((m + l.length : Nat) : Int), tmarks m l.length) := by
  intro d
  induction d with
  | zero =>
    intro i hi
    obtain rfl : i = l.length := by omega
    refine Ev.step (f := fun _ => some (((m + l.length : Nat) : Int), tmarks m l.length)) (fun k => ?_) (Ev.now _)
    simp only [laws_markStringS.l0, List.drop_length, List.append_nil, tmarks_length]
    rw [if_neg (by omega)]
  | succ d ih =>
    intro i hi
    have hlt : i < l.length := by omega
    have e : (tmarks m i ++ l.drop i).set i (mt (m + i)) = tmarks m (i + 1) ++ l.drop (i + 1) := by
      rw [List.set_append_right _ _ (by rw [tmarks_length]; omega), tmarks_length, Nat.sub_self, List.drop_eq_getElem_cons hlt, List.set_cons_zero, tmarks_succ, List.append_assoc]
      rfl
    have hlen : (tmarks m i ++ l.drop i).length = l.length := by rw [List.length_append, tmarks_length, List.length_drop]; omega
    have e2 : wrap64 (((m + i : Nat) : Int) + 1) = ((m + (i + 1) : Nat) : Int) := by rw [wrap_id (by omega) (by omega)]; omega
    refine Ev.step (f := fun k => (laws_markText.f k ((m + i : Nat) : Int)).bind fun t => laws_markStringS.l0 k ((tmarks m i ++ l.drop i).set i t) ((m + (i + 1) : Nat) : Int) ((i + 1 : Nat) : Int)) (fun k => ?_) ?_
    · have z : (0 : Int) ≤ (i : Int) := by omega
      simp only [laws_markStringS.l0, hlen, Int.toNat_natCast, e2, wrap_succ2 i (by omega), if_pos z]
      rw [if_pos (by omega)]
    · refine Ev.bind (f := fun k t => laws_markStringS.l0 k ((tmarks m i ++ l.drop i).set i t) ((m + (i + 1) : Nat) : Int) ((i + 1 : Nat) : Int)) (laws_markText_ev (m + i) (by omega)) ?_
      simp only [e]
      exact ih (i + 1) (by omega)
theorem laws_markStringS_ev (l : List ByteArray) (m : Nat) (hl : l.length ≤ 1048576) (hm : m ≤ 1000000000) : Ev (fun k => laws_markStringS.f k l (m : Int)) (((m + l.length : Nat) : Int), tmarks m l.length) := by
  have := laws_markStringS_l0 l m hl hm l.length 0 (by omega)
  simp only [tmarks, List.range_zero, List.map_nil, List.nil_append, List.drop_zero, Nat.add_zero] at this
  exact this

theorem laws_heldStringS_l0 (m n : Nat) (h : m + n ≤ 2000000000) : ∀ d i : Nat, i + d = n → Ev (fun k => laws_heldStringS.l0 k (tmarks m n) ((m + i : Nat) : Int) (i : Int)) ((m + n : Nat) : Int) := by
  intro d
  induction d with
  | zero =>
    intro i hi
    obtain rfl : i = n := by omega
    refine Ev.step (f := fun _ => some ((m + i : Nat) : Int)) (fun k => ?_) (Ev.now _)
    simp only [laws_heldStringS.l0, tmarks_length]
    rw [if_neg (by omega)]
  | succ d ih =>
    intro i hi
    have hlt : i < (tmarks m n).length := by rw [tmarks_length]; omega
    have e2 : wrap64 (((m + i : Nat) : Int) + 1) = ((m + (i + 1) : Nat) : Int) := by rw [wrap_id (by omega) (by omega)]; omega
    refine Ev.step (f := fun k => (laws_markText.f k ((m + i : Nat) : Int)).bind fun t => if (mt (m + i)).toList = t.toList then laws_heldStringS.l0 k (tmarks m n) ((m + (i + 1) : Nat) : Int) ((i + 1 : Nat) : Int) else some (-1)) (fun k => ?_) ?_
    · simp only [laws_heldStringS.l0, rdOf_nat _ _ i hlt, tmarks_get, tmarks_length, e2, wrap_succ2 i (by omega)]
      rw [if_pos (by omega), if_pos (by omega)]
    · refine Ev.bind (f := fun k t => if (mt (m + i)).toList = t.toList then laws_heldStringS.l0 k (tmarks m n) ((m + (i + 1) : Nat) : Int) ((i + 1 : Nat) : Int) else some (-1)) (laws_markText_ev (m + i) (by omega)) ?_
      simp only [if_true]
      exact ih (i + 1) (by omega)
theorem laws_heldStringS_ev (m n : Nat) (h : m + n ≤ 2000000000) : Ev (fun k => laws_heldStringS.f k (tmarks m n) (m : Int)) ((m + n : Nat) : Int) := laws_heldStringS_l0 m n h n 0 (by omega)

theorem nat_nn (n : Nat) : ((n : Int) < 0) = False := by simp
theorem one_nat : (1 : Int) = ((1 : Nat) : Int) := rfl

theorem FnExactSplitBody : laws_FnExactSplitBody.Pure := by
  intro s _
  by_cases ha : (s.size : Int) > 1048576
  · exact ⟨0, by unfold laws_FnExactSplitBody.f; rw [if_pos ha]⟩
  have hg := splitV_length s
  obtain ⟨K1, h1⟩ := spec_SplitBody_ev s
  obtain ⟨K2, h2⟩ := impl_SplitBody_ev s
  generalize splitV s = g at h1 h2 hg
  obtain ⟨g, ok⟩ := g
  have hg' : g.length ≤ 11 := hg
  obtain ⟨K3, h3⟩ := laws_eqStringS_ev g g (by omega)
  obtain ⟨K4, h4⟩ := laws_markStringS_ev g 1 (by omega) (by omega)
  obtain ⟨K5, h5⟩ := laws_heldStringS_ev 1 g.length (by omega)
  refine ⟨K1 + K2 + K3 + K4 + K5 + 1 + 1 + 1 + 1, ?_⟩
  rw [← one_nat] at h4 h5
  simp (disch := omega) only [laws_FnExactSplitBody.f, laws_FnExactSplitBody.j0, laws_FnExactSplitBody.j1, if_neg ha, h1, h2, h3, h4, h5, Option.bind_some, decide_true, if_true, bne_self_eq_false, Bool.false_eq_true, if_false, nat_nn]

end Go.Proofs.Ytpfcdmcnajljcaa.Pure
