/- JoinBody answers as the reference's does, for all lists of texts. No conditions beyond the row's own. -/
import Derived.Test.YtekadhniinpdfaaMFnExactJoinBodyx2
import Derived.Test.YtekadhniinpdfaaMFnExactJoinBodyx0
import Derived.Test.YtekadhniinpdfaaMFnExactJoinBodyx1
import Derived.Test.YtekadhniinpdfaaBit
set_option linter.unusedVariables false
set_option linter.unusedSimpArgs false
namespace Go.Proofs.Ytekadhniinpdfaa.Pure
open Go.RowKit Go.Proofs.Ytekadhniinpdfaa Go.Proofs.Ytekadhniinpdfaa.MFnExactJoinBody Go.Proofs.YtekadhniinpdfaaW.PrintWords Go.Proofs.YtekadhniinpdfaaW.PrintLast Go.Proofs.Ytekadhniinpdfaa.Bit

theorem impl_within_eq (a b c : Int) : impl_within.f a b c = some (decide (b ≤ a ∧ a ≤ c)) := by
  unfold impl_within.f
  by_cases h : a ≥ b
  · rw [if_pos h]; congr 1; simp [show b ≤ a from h]
  · rw [if_neg h]; congr 1; simp; omega

theorem rdOf_nat {α : Type} (d : α) (l : List α) (i : Nat) (h : i < l.length) : rdOf d l (i : Int) = l[i] := by
  unfold rdOf
  simp [List.getD_eq_getElem?_getD, List.getElem?_eq_getElem h]
theorem wrap_succ2 (i : Nat) (h : i < 9223372036854775807) : wrap64 ((i : Int) + 1) = ((i + 1 : Nat) : Int) := by rw [wrap_id (by omega) (by omega)]; omega

/-- The pieces of a text: so many at the most. -/
def splitL : Nat → ByteArray → List ByteArray
  | 0, s => [s]
  | f + 1, s => if 16 < s.size then s.extract 0 16 :: splitL f (s.extract 16 s.size) else [s]
theorem splitL_length : ∀ f s, (splitL f s).length ≤ f + 1
  | 0, _ => by simp [splitL]
  | f + 1, s => by
    unfold splitL
    have := splitL_length f (s.extract 16 s.size)
    split <;> simp <;> omega
/-- What SplitBody answers. -/
def splitV (s : ByteArray) : List ByteArray × Bool := if 1 ≤ s.size ∧ s.size ≤ 160 then (splitL 10 s, true) else ([], false)
theorem splitV_length (s : ByteArray) : (splitV s).1.length ≤ 11 := by
  unfold splitV
  split
  · exact splitL_length 10 s
  · simp

/-- Texts put together, and which texts are a body's pieces. -/
def catB : List ByteArray → ByteArray
  | [] => ⟨#[]⟩
  | t :: l => t ++ catB l
def okJ : List ByteArray → Bool
  | [] => true
  | t :: l => decide (1 ≤ t.size ∧ t.size ≤ 16) && ((l.isEmpty || decide (t.size = 16)) && okJ l)
theorem catB_data : ∀ l : List ByteArray, (catB l).data.toList = (l.map (·.data.toList)).flatten
  | [] => rfl
  | t :: l => by
    show (t ++ catB l).data.toList = _
    rw [ByteArray.data_append, Array.toList_append, catB_data l]; rfl
theorem catB_size (t : ByteArray) (l : List ByteArray) : (catB (t :: l)).size = t.size + (catB l).size := ByteArray.size_append
theorem app_nil (t : ByteArray) : t ++ (⟨#[]⟩ : ByteArray) = t := by
  cases t
  apply ByteArray.ext
  rw [ByteArray.data_append]; simp
theorem nil_app (t : ByteArray) : (⟨#[]⟩ : ByteArray) ++ t = t := by
  cases t
  apply ByteArray.ext
  rw [ByteArray.data_append]; simp
theorem app_assoc (a b c : ByteArray) : a ++ b ++ c = a ++ (b ++ c) := by
  apply ByteArray.ext
  simp [ByteArray.data_append]
theorem ext_left (a b : ByteArray) (n : Nat) (h : a.size = n) : (a ++ b).extract 0 n = a := by
  subst h
  apply ByteArray.ext
  apply Array.toList_inj.1
  rw [ByteArray.data_extract, Array.toList_extract, ByteArray.data_append, Array.toList_append]
  have e : a.size = a.data.toList.length := by rw [Array.length_toList]; rfl
  rw [List.extract, List.drop_zero, Nat.sub_zero, e, List.take_left']; rfl
theorem ext_right (a b : ByteArray) (n m : Nat) (h : a.size = n) (hm : m = n + b.size) : (a ++ b).extract n m = b := by
  subst h hm
  apply ByteArray.ext
  apply Array.toList_inj.1
  rw [ByteArray.data_extract, Array.toList_extract, ByteArray.data_append, Array.toList_append]
  have e : a.size = a.data.toList.length := by rw [Array.length_toList]; rfl
  have e2 : b.size = b.data.toList.length := by rw [Array.length_toList]; rfl
  rw [List.extract, Nat.add_sub_cancel_left, e, List.drop_left', e2, List.take_length]; rfl
theorem okJ_size : ∀ {l : List ByteArray}, okJ l = true → l ≠ [] → 1 ≤ (catB l).size ∧ (catB l).size ≤ 16 * l.length
  | [], _, h => absurd rfl h
  | t :: l, h, _ => by
    simp only [okJ, Bool.and_eq_true, decide_eq_true_eq] at h
    rw [catB_size]
    by_cases hl : l = []
    · subst hl
      have : (catB []).size = 0 := rfl
      simp only [List.length_cons, List.length_nil]; omega
    · have := okJ_size h.2.2 hl
      simp only [List.length_cons]; omega
theorem split_cat : ∀ (l : List ByteArray) (f : Nat), okJ l = true → l ≠ [] → l.length ≤ f + 1 → splitL f (catB l) = l
  | [], _, _, h, _ => absurd rfl h
  | [t], f, h, _, _ => by
    simp only [okJ, Bool.and_eq_true, decide_eq_true_eq] at h
    have e : catB [t] = t := app_nil t
    rw [e]
    cases f with
    | zero => rfl
    | succ f => unfold splitL; rw [if_neg (by omega)]
  | t :: u :: r, f, h, _, hf => by
    simp only [okJ, Bool.and_eq_true, decide_eq_true_eq, List.isEmpty_cons, Bool.false_or] at h
    cases f with
    | zero => simp at hf
    | succ f =>
      have hk : okJ (u :: r) = true := by simp only [okJ, Bool.and_eq_true, decide_eq_true_eq]; exact h.2.2
      have hs := okJ_size hk (by simp)
      have ih := split_cat (u :: r) f hk (by simp) (by simpa using hf)
      show splitL (f + 1) (t ++ catB (u :: r)) = _
      unfold splitL
      have e0 : (t ++ catB (u :: r)).size = 16 + (catB (u :: r)).size := by rw [ByteArray.size_append]; omega
      rw [if_pos (by omega), e0, ext_left _ _ 16 h.2.1, ext_right _ _ 16 _ h.2.1 rfl, ih]
theorem splitL_ne : ∀ (f : Nat) (s : ByteArray), (splitL f s).isEmpty = false
  | 0, _ => rfl
  | f + 1, s => by unfold splitL; split <;> rfl
theorem ok_split : ∀ (f : Nat) (s : ByteArray), 1 ≤ s.size → s.size ≤ 16 * (f + 1) → okJ (splitL f s) = true
  | 0, s, h1, h2 => by
    simp only [splitL, okJ, List.isEmpty_nil, Bool.true_or, Bool.and_true, decide_eq_true_eq]; omega
  | f + 1, s, h1, h2 => by
    unfold splitL
    split
    · have := ok_split f (s.extract 16 s.size) (by simp only [ByteArray.size_extract]; omega) (by simp only [ByteArray.size_extract]; omega)
      simp only [okJ, this, splitL_ne, Bool.false_or, Bool.and_true, Bool.and_eq_true, decide_eq_true_eq, ByteArray.size_extract]; omega
    · simp only [okJ, List.isEmpty_nil, Bool.true_or, Bool.and_true, decide_eq_true_eq]; omega
/-- What JoinBody answers. -/
def joinV (l : List ByteArray) : ByteArray × Bool := if 1 ≤ l.length ∧ l.length ≤ 10 then (if okJ l then (catB l, true) else (⟨#[]⟩, false)) else (⟨#[]⟩, false)
theorem toList_nil (t : ByteArray) : t.toList = ([] : List UInt8) ↔ t.size = 0 := by
  rw [Go.ByteArray.toList_eq]
  cases t with
  | mk a => simp [ByteArray.size]

/-- What is left of a number when all texts of a list are taken from it; -1 as soon as it is not enough. -/
def szT : List ByteArray → Int → Int
  | [], a => a
  | t :: l, a => if a - (t.size : Int) < 0 then -1 else szT l (a - (t.size : Int))
theorem szT_cat : ∀ (l : List ByteArray) (a : Int), 0 ≤ a → 0 ≤ szT l a → ((catB l).size : Int) ≤ a
  | [], a, h, _ => by rw [show (catB []).size = 0 from rfl]; omega
  | t :: l, a, h, h2 => by
    unfold szT at h2
    split at h2
    · omega
    · have := szT_cat l (a - (t.size : Int)) (by omega) h2
      rw [catB_size]; omega
theorem laws_szStringS_l0 (l : List ByteArray) (hl : l.length ≤ 1048576) (hs : ∀ s ∈ l, s.size ≤ 9223372036854775807) : ∀ (d i : Nat) (a : Int), i + d = l.length → 0 ≤ a → a ≤ 1048576 → Ev (fun k => laws_szStringS.l0 k l a (i : Int)) (szT (l.drop i) a) := by
  intro d
  induction d with
  | zero =>
    intro i a hi _ _
    obtain rfl : i = l.length := by omega
    rw [List.drop_length]
    exact Ev.step (f := fun _ => some a) (fun k => by rw [laws_szStringS.l0.eq_2, if_neg (by omega)]) (Ev.now _)
  | succ d ih =>
    intro i a hi h0 h1
    have hlt : i < l.length := by omega
    have hx := hs _ (List.getElem_mem hlt)
    rw [List.drop_eq_getElem_cons hlt]
    unfold szT
    have hw : wrap64 (a - (l[i].size : Int)) = a - (l[i].size : Int) := wrap_id (by omega) (by omega)
    by_cases hn : a - (l[i].size : Int) < 0
    · rw [if_pos hn]
      exact Ev.step (f := fun _ => some (-1)) (fun k => by rw [laws_szStringS.l0.eq_2, if_pos (by omega), if_pos (by omega), rdOf_nat _ l i hlt, hw, if_pos hn]) (Ev.now _)
    · rw [if_neg hn]
      refine Ev.step (f := fun k => laws_szStringS.l0 k l (a - (l[i].size : Int)) ((i + 1 : Nat) : Int)) (fun k => ?_) (ih (i + 1) (a - (l[i].size : Int)) (by omega) (by omega) (by omega))
      rw [laws_szStringS.l0.eq_2, if_pos (by omega), if_pos (by omega), rdOf_nat _ l i hlt, hw, if_neg hn, wrap_succ2 i (by omega)]
theorem laws_szStringS_ev (l : List ByteArray) (hl : l.length ≤ 9223372036854775807) (hs : ∀ s ∈ l, s.size ≤ 9223372036854775807) : Ev (fun k => laws_szStringS.f k l 1048576) (if l.length ≤ 1048576 then szT l (1048576 - (l.length : Int)) else -1) := by
  unfold laws_szStringS.f
  rw [wrap_id (n := 1048576 - (l.length : Int)) (by omega) (by omega)]
  by_cases h : l.length ≤ 1048576
  · simp only [if_pos h, if_neg (show ¬ 1048576 - (l.length : Int) < 0 by omega)]
    exact laws_szStringS_l0 l h hs l.length 0 _ (by omega) (by omega) (by omega)
  · simp only [if_neg h, if_pos (show 1048576 - (l.length : Int) < 0 by omega)]
    exact Ev.now _

theorem spec_l1In_eq (a b c : Int) : spec_l1In.f a b c = some (decide (b ≤ a ∧ a ≤ c)) := by
  unfold spec_l1In.f
  by_cases h : a ≥ b
  · rw [if_pos h]; congr 1; simp [show b ≤ a from h]
  · rw [if_neg h]; congr 1; simp; omega

theorem bytes_ext {a b : ByteArray} (h : a.toList = b.toList) : a = b := by
  rw [Go.ByteArray.toList_eq, Go.ByteArray.toList_eq] at h
  cases a; cases b
  simp only [ByteArray.mk.injEq]
  exact Array.toList_inj.1 h

theorem spec_JoinBody_l0 (l : List ByteArray) (hl : l.length ≤ 10) : ∀ (d i : Nat) (acc : ByteArray), i + d = l.length → acc.size ≤ 16 * i →
    Ev (fun k => spec_JoinBody.l0 k l acc l (l.length : Int) (i : Int)) (if okJ (l.drop i) then (acc ++ catB (l.drop i), true) else (⟨#[]⟩, false)) := by
  intro d
  induction d with
  | zero =>
    intro i acc hi ha
    obtain rfl : i = l.length := by omega
    have e : (if okJ (l.drop l.length) then (acc ++ catB (l.drop l.length), true) else ((⟨#[]⟩ : ByteArray), false)) = (acc, true) := by
      rw [List.drop_length, show okJ [] = true from rfl, if_pos rfl, show catB [] = ⟨#[]⟩ from rfl, app_nil]
    rw [e]
    exact Ev.step (f := fun _ => some (acc, true)) (fun k => by simp only [spec_JoinBody.l0]; rw [if_neg (by omega)]) (Ev.now _)
  | succ d ih =>
    intro i acc hi ha
    have hlt : i < l.length := by omega
    have hw : wrap64 ((l.length : Int) - 1) = ((l.length - 1 : Nat) : Int) := by rw [wrap_id (by omega) (by omega)]; omega
    have hem : (l.drop (i + 1)).isEmpty = decide (i + 1 = l.length) := by
      rw [Bool.eq_iff_iff, List.isEmpty_iff, decide_eq_true_eq, List.drop_eq_nil_iff]; omega
    rw [List.drop_eq_getElem_cons hlt]
    have hstep : ∀ {v : ByteArray × Bool}, Ev (fun k => (if l[i].toList = ([] : List UInt8) then some ((⟨#[]⟩ : ByteArray), false) else if (l[i].size : Int) > 16 then some ((⟨#[]⟩ : ByteArray), false) else if (i : Int) < ((l.length - 1 : Nat) : Int) then (if (l[i].size : Int) < 16 then some ((⟨#[]⟩ : ByteArray), false) else if acc.size + l[i].size ≤ 9223372036854775807 then spec_JoinBody.l0 k l (acc ++ l[i]) l (l.length : Int) ((i + 1 : Nat) : Int) else none) else if acc.size + l[i].size ≤ 9223372036854775807 then spec_JoinBody.l0 k l (acc ++ l[i]) l (l.length : Int) ((i + 1 : Nat) : Int) else none)) v → Ev (fun k => spec_JoinBody.l0 k l acc l (l.length : Int) (i : Int)) v := by
      intro v h
      refine Ev.step (fun k => ?_) h
      simp only [spec_JoinBody.l0, rdOf_nat _ l i hlt, wrap_succ2 i (by omega), hw]
      rw [if_pos (by omega), if_pos (by omega), if_pos (by omega)]
    apply hstep
    show Ev _ (if okJ (l[i] :: l.drop (i + 1)) then (acc ++ (l[i] ++ catB (l.drop (i + 1))), true) else (⟨#[]⟩, false))
    generalize l[i] = t
    have ihh := fun (hs : t.size ≤ 16) => ih (i + 1) (acc ++ t) (by omega) (by rw [ByteArray.size_append]; omega)
    rw [app_assoc] at ihh
    simp only [okJ, hem]
    by_cases h1 : t.size = 0
    · simp only [if_pos ((toList_nil t).2 h1)]
      rw [decide_eq_false (by omega), Bool.false_and]
      exact Ev.now _
    simp only [if_neg (fun h => h1 ((toList_nil t).1 h))]
    by_cases h2 : t.size ≤ 16
    rotate_left
    · simp only [if_pos (show (t.size : Int) > 16 by omega)]
      rw [decide_eq_false (by omega), Bool.false_and]
      exact Ev.now _
    simp only [if_neg (show ¬ (t.size : Int) > 16 by omega), if_pos (show acc.size + t.size ≤ 9223372036854775807 by omega)]
    rw [decide_eq_true (show 1 ≤ t.size ∧ t.size ≤ 16 by omega), Bool.true_and]
    by_cases h3 : i + 1 = l.length
    · simp only [if_neg (show ¬ (i : Int) < ((l.length - 1 : Nat) : Int) by omega)]
      rw [decide_eq_true h3, Bool.true_or, Bool.true_and]
      exact ihh h2
    · simp only [if_pos (show (i : Int) < ((l.length - 1 : Nat) : Int) by omega)]
      rw [decide_eq_false h3, Bool.false_or]
      by_cases h4 : t.size = 16
      · simp only [if_neg (show ¬ (t.size : Int) < 16 by omega)]
        rw [decide_eq_true h4, Bool.true_and]
        exact ihh h2
      · simp only [if_pos (show (t.size : Int) < 16 by omega)]
        rw [decide_eq_false h4, Bool.false_and]
        exact Ev.now _
theorem spec_JoinBody_ev (l : List ByteArray) : Ev (fun k => spec_JoinBody.f k l) (joinV l) := by
  unfold spec_JoinBody.f joinV
  simp only [spec_l1In_eq, Option.bind_some]
  by_cases h : 1 ≤ l.length ∧ l.length ≤ 10
  · have z : (1 : Int) ≤ (l.length : Int) ∧ (l.length : Int) ≤ 10 := by omega
    rw [if_pos h]
    simp only [decide_eq_true z, if_true]
    have := spec_JoinBody_l0 l h.2 l.length 0 ⟨#[]⟩ (by omega) (Nat.zero_le _)
    rwa [List.drop_zero, nil_app] at this
  · have z : ¬ ((1 : Int) ≤ (l.length : Int) ∧ (l.length : Int) ≤ 10) := by omega
    rw [if_neg h]
    simp only [decide_eq_false z]
    exact Ev.now _

theorem laws_toStringS_l0 (l : List ByteArray) (hl : l.length ≤ 1048576) : ∀ d i : Nat, i + d = l.length → Ev (fun k => laws_toStringS.l0 k l (l.take i ++ List.replicate (l.length - i) (⟨#[]⟩ : ByteArray)) (i : Int)) l := by
  intro d
  induction d with
  | zero =>
    intro i hi
    obtain rfl : i = l.length := by omega
    refine Ev.step (f := fun _ => some l) (fun k => ?_) (Ev.now _)
    rw [laws_toStringS.l0.eq_2, if_neg (by omega)]; simp
  | succ d ih =>
    intro i hi
    have hlt : i < l.length := by omega
    refine Ev.step (f := fun k => laws_toStringS.l0 k l (l.take (i + 1) ++ List.replicate (l.length - (i + 1)) (⟨#[]⟩ : ByteArray)) ((i + 1 : Nat) : Int)) (fun k => ?_) (ih (i + 1) (by omega))
    have e : (l.take i ++ List.replicate (l.length - i) (⟨#[]⟩ : ByteArray)).set i l[i] = l.take (i + 1) ++ List.replicate (l.length - (i + 1)) (⟨#[]⟩ : ByteArray) := by
      obtain ⟨m, hm⟩ : ∃ m, l.length - i = m + 1 := ⟨l.length - i - 1, by omega⟩
      have hm2 : l.length - (i + 1) = m := by omega
      rw [hm, hm2, List.replicate_succ, List.set_append_right _ _ (by rw [List.length_take]; omega), List.length_take, show i - min i l.length = 0 by omega, List.set_cons_zero, List.take_succ_eq_append_getElem hlt, List.append_assoc]; rfl
    rw [laws_toStringS.l0.eq_2, if_pos (by omega), if_pos (by omega), if_pos (by rw [List.length_append, List.length_take, List.length_replicate]; omega), rdOf_nat _ l i hlt, wrap_succ2 i (by omega), Int.toNat_natCast, e]
theorem laws_toStringS_ev (l : List ByteArray) (hl : l.length ≤ 1048576) : Ev (fun k => laws_toStringS.f k l) l := by
  unfold laws_toStringS.f
  have z1 : (0 : Int) ≤ (l.length : Int) := by omega
  have z2 : (l.length : Int).toNat ≤ 17592186044416 := by omega
  simp only [if_pos z1, if_pos z2]
  have := laws_toStringS_l0 l hl l.length 0 (by omega)
  simpa using this

theorem strings_Join_cat (l : List ByteArray) (h1 : l.length ≤ 1048576) (h2 : (catB l).size ≤ 1048576) : strings_Join.f l (⟨#[]⟩ : ByteArray) = some (catB l) := by
  have e : strings_Join.joined l (⟨#[]⟩ : ByteArray) = (catB l).data.toList := by
    unfold strings_Join.joined
    rw [catB_data]
    show ([] : List UInt8).intercalate (l.map (·.data.toList)) = _
    generalize l.map (·.data.toList) = m
    cases m with
    | nil => rfl
    | cons x r =>
      have := Lib.join_cons x r []
      unfold Lib.join at this
      rw [this]
      unfold Lib.joinTail
      simp
  unfold strings_Join.f
  rw [e]
  have hl : (catB l).data.toList.length = (catB l).size := by rw [Array.length_toList]; rfl
  rw [if_pos ⟨by omega, by omega⟩]

theorem impl_SplitBody_l0 : ∀ (f : Nat) (s : ByteArray) (acc : List ByteArray), s.size ≤ 16 * f → acc.length + f ≤ 100 → Ev (fun k => impl_SplitBody.l0 k s acc) (acc ++ splitL f s, true) := by
  intro f
  induction f with
  | zero =>
    intro s acc hs ha
    exact Ev.step (f := fun _ => some (acc ++ [s], true)) (fun k => by simp only [impl_SplitBody.l0]; rw [if_neg (by omega), if_pos (by omega)]) (Ev.now _)
  | succ f ih =>
    intro s acc hs ha
    unfold splitL
    by_cases h : 16 < s.size
    · rw [if_pos h]
      have := ih (s.extract 16 s.size) (acc ++ [s.extract 0 16]) (by simp only [ByteArray.size_extract]; omega) (by simp; omega)
      rw [List.append_assoc] at this
      refine Ev.step (f := fun k => impl_SplitBody.l0 k (s.extract 16 s.size) (acc ++ [s.extract 0 16])) (fun k => ?_) this
      simp only [impl_SplitBody.l0]
      rw [if_pos (by omega), if_pos (by omega), if_pos (by omega), if_pos (by omega)]
    · rw [if_neg h]
      exact Ev.step (f := fun _ => some (acc ++ [s], true)) (fun k => by simp only [impl_SplitBody.l0]; rw [if_neg (by omega), if_pos (by omega)]) (Ev.now _)
theorem impl_SplitBody_ev (s : ByteArray) : Ev (fun k => impl_SplitBody.f k s) (splitV s) := by
  unfold impl_SplitBody.f splitV
  simp only [impl_within_eq, Option.bind_some]
  by_cases h : 1 ≤ s.size ∧ s.size ≤ 160
  · have z : (1 : Int) ≤ (s.size : Int) ∧ (s.size : Int) ≤ 160 := by omega
    rw [if_pos h]
    simp only [decide_eq_true z, if_true]
    have := impl_SplitBody_l0 10 s [] (by omega) (by simp)
    simpa using this
  · have z : ¬ ((1 : Int) ≤ (s.size : Int) ∧ (s.size : Int) ≤ 160) := by omega
    rw [if_neg h]
    simp only [decide_eq_false z]
    exact Ev.now _

theorem slices_Equal_string_string_l0 (l m : List ByteArray) (hlm : l.length = m.length) (hl : l.length ≤ 140737488351232) : ∀ d i : Nat, i + d = l.length → Ev (fun k => slices_Equal_string_string.l0 k l m (l.length : Int) (i : Int)) (decide (l.drop i = m.drop i)) := by
  intro d
  induction d with
  | zero =>
    intro i hi
    obtain rfl : i = l.length := by omega
    have e : decide (l.drop l.length = m.drop l.length) = true := by
      have e2 : m.drop l.length = [] := by rw [hlm, List.drop_length]
      rw [e2, List.drop_length]; rfl
    rw [e]
    exact Ev.step (f := fun _ => some true) (fun k => by simp only [slices_Equal_string_string.l0]; rw [if_neg (by omega)]) (Ev.now _)
  | succ d ih =>
    intro i hi
    have hlt : i < l.length := by omega
    have hlt2 : i < m.length := by omega
    rw [List.drop_eq_getElem_cons hlt, List.drop_eq_getElem_cons hlt2]
    by_cases e : l[i] = m[i]
    · have : decide (l[i] :: l.drop (i + 1) = m[i] :: m.drop (i + 1)) = decide (l.drop (i + 1) = m.drop (i + 1)) := by simp only [List.cons.injEq, e, true_and]
      rw [this]
      refine Ev.step (f := fun k => slices_Equal_string_string.l0 k l m (l.length : Int) ((i + 1 : Nat) : Int)) (fun k => ?_) (ih (i + 1) (by omega))
      simp only [slices_Equal_string_string.l0, rdOf_nat _ l i hlt, rdOf_nat _ m i hlt2, wrap_succ2 i (by omega)]
      rw [if_pos (by omega), if_pos (by omega), if_pos (by omega), if_pos (by omega), if_pos (by rw [e])]
    · have : decide (l[i] :: l.drop (i + 1) = m[i] :: m.drop (i + 1)) = false := by simp only [List.cons.injEq, e, false_and, decide_false]
      rw [this]
      refine Ev.step (f := fun k => some false) (fun k => ?_) (Ev.now _)
      simp only [slices_Equal_string_string.l0, rdOf_nat _ l i hlt, rdOf_nat _ m i hlt2, wrap_succ2 i (by omega)]
      rw [if_pos (by omega), if_pos (by omega), if_pos (by omega), if_pos (by omega), if_neg (fun h => e (bytes_ext h))]
theorem slices_Equal_string_string_ev (l m : List ByteArray) (hl : l.length ≤ 140737488351232) : Ev (fun k => slices_Equal_string_string.f k l m) (decide (l = m)) := by
  unfold slices_Equal_string_string.f
  by_cases h : l.length = m.length
  · simp only [if_pos (show (l.length : Int) = (m.length : Int) by omega)]
    exact slices_Equal_string_string_l0 l m h hl l.length 0 (by omega)
  · simp only [if_neg (show ¬ (l.length : Int) = (m.length : Int) by omega)]
    have : decide (l = m) = false := by simp only [decide_eq_false_iff_not]; rintro rfl; exact h rfl
    rw [this]
    exact Ev.now _

theorem impl_JoinBody_ev (l : List ByteArray) (h2 : (catB l).size ≤ 1048576) : Ev (fun k => impl_JoinBody.f k l) (joinV l) := by
  unfold impl_JoinBody.f joinV
  simp only [impl_within_eq, Option.bind_some]
  by_cases h : 1 ≤ l.length ∧ l.length ≤ 10
  rotate_left
  · have z : ¬ ((1 : Int) ≤ (l.length : Int) ∧ (l.length : Int) ≤ 10) := by omega
    rw [if_neg h]
    simp only [decide_eq_false z]
    exact Ev.now _
  have z : (1 : Int) ≤ (l.length : Int) ∧ (l.length : Int) ≤ 10 := by omega
  have hne : l ≠ [] := fun e => by rw [e] at h; simp at h
  rw [if_pos h]
  simp only [decide_eq_true z, if_true, strings_Join_cat l (by omega) h2, Option.bind_some]
  refine Ev.bind (f := fun k bt => if bt.2 = true then ((slices_Equal_string_string.f k bt.1 l).bind fun t => if t = true then some (catB l, true) else some ((⟨#[]⟩ : ByteArray), false)) else some ((⟨#[]⟩ : ByteArray), false)) (impl_SplitBody_ev (catB l)) ?_
  unfold splitV
  cases hk : okJ l with
  | true =>
    have hs := okJ_size hk hne
    rw [if_pos (show 1 ≤ (catB l).size ∧ (catB l).size ≤ 160 by omega), split_cat l 10 hk hne (by omega)]
    have E := slices_Equal_string_string_ev l l (by omega)
    rw [decide_eq_true rfl] at E
    simp only [if_true]
    exact Ev.bind (f := fun _ t => if t = true then some (catB l, true) else some ((⟨#[]⟩ : ByteArray), false)) E (Ev.now _)
  | false =>
    by_cases hs : 1 ≤ (catB l).size ∧ (catB l).size ≤ 160
    · rw [if_pos hs]
      have hp := ok_split 10 (catB l) hs.1 (by omega)
      have hpl := splitL_length 10 (catB l)
      have E := slices_Equal_string_string_ev (splitL 10 (catB l)) l (by omega)
      rw [decide_eq_false (fun e => by rw [e, hk] at hp; cases hp)] at E
      simp only [if_true]
      exact Ev.bind (f := fun _ t => if t = true then some (catB l, true) else some ((⟨#[]⟩ : ByteArray), false)) E (Ev.now _)
    · rw [if_neg hs]
      exact Ev.now _

theorem laws_eqStringS_l0 (l m : List ByteArray) (hlm : l.length = m.length) (hl : l.length ≤ 140737488351232) : ∀ d i : Nat, i + d = l.length → Ev (fun k => laws_eqStringS.l0 k l m (i : Int)) (decide (l.drop i = m.drop i)) := by
  intro d
  induction d with
  | zero =>
    intro i hi
    obtain rfl : i = l.length := by omega
    have e : decide (l.drop l.length = m.drop l.length) = true := by
      have e2 : m.drop l.length = [] := by rw [hlm, List.drop_length]
      rw [e2, List.drop_length]; rfl
    rw [e]
    exact Ev.step (f := fun _ => some true) (fun k => by simp only [laws_eqStringS.l0]; rw [if_neg (by omega)]) (Ev.now _)
  | succ d ih =>
    intro i hi
    have hlt : i < l.length := by omega
    have hlt2 : i < m.length := by omega
    rw [List.drop_eq_getElem_cons hlt, List.drop_eq_getElem_cons hlt2]
    by_cases e : l[i] = m[i]
    · have : decide (l[i] :: l.drop (i + 1) = m[i] :: m.drop (i + 1)) = decide (l.drop (i + 1) = m.drop (i + 1)) := by simp only [List.cons.injEq, e, true_and]
      rw [this]
      refine Ev.step (f := fun k => laws_eqStringS.l0 k l m ((i + 1 : Nat) : Int)) (fun k => ?_) (ih (i + 1) (by omega))
      simp only [laws_eqStringS.l0, rdOf_nat _ l i hlt, rdOf_nat _ m i hlt2, wrap_succ2 i (by omega)]
      rw [if_pos (by omega), if_pos (by omega), if_pos (by omega), if_pos (by rw [e])]
    · have : decide (l[i] :: l.drop (i + 1) = m[i] :: m.drop (i + 1)) = false := by simp only [List.cons.injEq, e, false_and, decide_false]
      rw [this]
      refine Ev.step (f := fun k => some false) (fun k => ?_) (Ev.now _)
      simp only [laws_eqStringS.l0, rdOf_nat _ l i hlt, rdOf_nat _ m i hlt2, wrap_succ2 i (by omega)]
      rw [if_pos (by omega), if_pos (by omega), if_pos (by omega), if_neg (fun h => e (bytes_ext h))]
theorem laws_eqStringS_ev (l m : List ByteArray) (hl : l.length ≤ 140737488351232) : Ev (fun k => laws_eqStringS.f k l m) (decide (l = m)) := by
  unfold laws_eqStringS.f
  by_cases h : l.length = m.length
  · simp only [if_pos (show (l.length : Int) = (m.length : Int) by omega)]
    exact laws_eqStringS_l0 l m h hl l.length 0 (by omega)
  · simp only [if_neg (show ¬ (l.length : Int) = (m.length : Int) by omega)]
    have : decide (l = m) = false := by simp only [decide_eq_false_iff_not]; rintro rfl; exact h rfl
    rw [this]
    exact Ev.now _

theorem law_JoinBody (l : List ByteArray) (hl : l.length ≤ 9223372036854775807) (hs : ∀ s ∈ l, s.size ≤ 9223372036854775807) : ∃ K, laws_FnExactJoinBody.f K l = some true := by
  refine Ev.rounds ?_
  unfold laws_FnExactJoinBody.f
  have E := laws_szStringS_ev l hl hs
  have hb : 0 ≤ (if l.length ≤ 1048576 then szT l (1048576 - (l.length : Int)) else -1) → l.length ≤ 1048576 ∧ (catB l).size ≤ 1048576 := by
    intro h
    split at h
    · rename_i h2
      have := szT_cat l _ (by omega) h
      exact ⟨h2, by omega⟩
    · omega
  generalize (if l.length ≤ 1048576 then szT l (1048576 - (l.length : Int)) else -1) = a at E hb
  refine Ev.bind (f := fun k t => if t < 0 then some true else _) E ?_
  by_cases ha : a < 0
  · simp only [if_pos ha]; exact Ev.now _
  simp only [if_neg ha]
  obtain ⟨h1, h2⟩ := hb (by omega)
  have ET := laws_toStringS_ev l h1
  refine Ev.bind (f := fun k t => _) ET ?_
  refine Ev.bind (f := fun k t => _) (spec_JoinBody_ev l) ?_
  refine Ev.bind (f := fun k t => _) ET ?_
  refine Ev.bind (f := fun k t => _) (impl_JoinBody_ev l h2) ?_
  simp only [if_true, bne_self_eq_false]
  have EE := laws_eqStringS_ev l l (by omega)
  rw [decide_eq_true rfl] at EE
  refine Ev.step (f := fun k => (laws_toStringS.f k l).bind fun t => (laws_eqStringS.f k l t).bind fun u => if u = true then some true else some false) (fun k => by rw [laws_FnExactJoinBody.j0.eq_2, if_neg (by decide)]) ?_
  exact Ev.bind (f := fun k t => (laws_eqStringS.f k l t).bind fun u => if u = true then some true else some false) ET (Ev.bind (f := fun k u => if u = true then some true else some false) EE (Ev.now _))
theorem laws_FnExactJoinBody_calls (A0 : Option Addr) (c0 : Nat) (l0 : List ByteArray) (w : World) (hr0 : Kd.C Kd.string w A0 l0.length l0) (hc0 : l0.length ≤ c0) (hw0 : ∀ s ∈ l0, s.size ≤ 9223372036854775807) :
    Calls Try.prog 5 #[.slice A0 l0.length c0] w fun e w' => e = .returned (.bool true) ∧ Below w.heap.size w w' := by
  obtain ⟨K, hK⟩ := law_JoinBody l0 hr0.2.1 hw0
  exact laws_FnExactJoinBody.calls K A0 c0 l0 true w hr0 hc0 hK

end Go.Proofs.Ytekadhniinpdfaa.Pure
