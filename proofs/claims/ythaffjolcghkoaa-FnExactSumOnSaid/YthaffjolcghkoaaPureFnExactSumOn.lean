/- SumOn answers as the reference's SumOn does, for all sums and texts. No conditions beyond the row's own. -/
import Derived.Test.YthaffjolcghkoaaPFnExactSumOnx1
import Derived.Test.YthaffjolcghkoaaBit
import Derived.Test.YthaffjolcghkoaaCrc
set_option linter.unusedVariables false
set_option linter.unusedSimpArgs false
namespace Go.Proofs.Ythaffjolcghkoaa.Pure
open Go.RowKit Go.Proofs.Ythaffjolcghkoaa Go.Proofs.Ythaffjolcghkoaa.PFnExactSumOn Go.Proofs.YthaffjolcghkoaaW.PrintWords Go.Proofs.YthaffjolcghkoaaW.PrintLast Go.Proofs.Ythaffjolcghkoaa.Bit

theorem spec_l1In_eq (a b c : Int) : spec_l1In.f a b c = some (decide (b ≤ a ∧ a ≤ c)) := by
  unfold spec_l1In.f
  by_cases h : a ≥ b
  · rw [if_pos h]; congr 1; simp [show b ≤ a from h]
  · rw [if_neg h]; congr 1; simp; omega

/-- Is a number of 32 bits? -/
def isS (a : Int) : Bool := decide (0 ≤ a ∧ a ≤ 4294967295)
theorem isS_nat {a : Int} (h : isS a = true) : ∃ n : Nat, a = (n : Int) ∧ n < 2 ^ 32 := by
  simp only [isS, decide_eq_true_eq] at h
  exact ⟨a.toNat, by omega, by omega⟩
def isL (a : Int) : Bool := decide (0 ≤ a ∧ a ≤ 400)
theorem isL_nat {a : Int} (h : isL a = true) : ∃ n : Nat, a = (n : Int) ∧ n ≤ 400 := by
  simp only [isL, decide_eq_true_eq] at h
  exact ⟨a.toNat, by omega, by omega⟩

theorem spec_l5Sum_eq (a : Int) : spec_l5Sum.f a = some (isS a) := by
  unfold spec_l5Sum.f; rw [spec_l1In_eq]; rfl

theorem spec_l5Byte_l0 : ∀ (n x i : Nat), x < 2 ^ 32 → n + i = 8 → Ev (fun k => spec_l5Byte.l0 k (x : Int) (i : Int)) ((Crc.shN n x : Nat) : Int) := by
  intro n
  induction n with
  | zero =>
    intro x i _ hi
    obtain rfl : i = 8 := by omega
    exact Ev.step (f := fun _ => some ((x : Nat) : Int)) (fun k => by simp only [spec_l5Byte.l0]; rw [if_neg (by omega)]) (Ev.now _)
  | succ n ih =>
    intro x i hx hi
    have e1 : wrap64 ((i : Int) + 1) = ((i + 1 : Nat) : Int) := by rw [wrap_id (by omega) (by omega)]; omega
    have e2 : Go.bits .xor .i64 ((x / 2 : Nat) : Int) 2197175160 = (((x / 2) ^^^ 2197175160 : Nat) : Int) := xor_nat (a := x / 2) (b := 2197175160) (by omega) (by decide)
    have e4 := and_one (a := x) (by omega)
    refine Ev.step (f := fun k => spec_l5Byte.l0 k ((Crc.sh1 x : Nat) : Int) ((i + 1 : Nat) : Int)) (fun k => ?_) (ih _ _ (Crc.sh1_lt hx) (by omega))
    simp only [spec_l5Byte.l0, e1, half_nat, e2, e4, Crc.sh1]
    rw [if_pos (by omega)]
    by_cases h1 : x % 2 = 1
    · rw [if_pos (show ((x % 2 : Nat) : Int) = 1 by omega), if_pos h1]
    · rw [if_neg (show ¬ ((x % 2 : Nat) : Int) = 1 by omega), if_neg h1]
theorem spec_l5Byte_ev (x : Nat) (hx : x < 2 ^ 32) : Ev (fun k => spec_l5Byte.f k (x : Int)) ((Crc.shN 8 x : Nat) : Int) := spec_l5Byte_l0 8 x 0 hx rfl

theorem spec_l5On_l0 (s : ByteArray) (hs : s.size ≤ 140737488351232) : ∀ (d x i : Nat), x < 2 ^ 32 → i + d = s.size → Ev (fun k => spec_l5On.l0 k (x : Int) s (i : Int)) ((Crc.crcL ((Crc.bl s).drop i) x ^^^ Crc.ones : Nat) : Int) := by
  intro d
  induction d with
  | zero =>
    intro x i hx hi
    obtain rfl : i = s.size := by omega
    have e : Go.bits .xor .i64 (x : Int) 4294967295 = ((x ^^^ Crc.ones : Nat) : Int) := xor_nat (a := x) (b := 4294967295) (by omega) (by decide)
    rw [Crc.bl_end]
    exact Ev.step (f := fun _ => some ((x ^^^ Crc.ones : Nat) : Int)) (fun k => by simp only [spec_l5On.l0]; rw [if_neg (by omega), e]) (Ev.now _)
  | succ d ih =>
    intro x i hx hi
    have hlt : i < s.size := by omega
    have e1 : wrap64 ((i : Int) + 1) = ((i + 1 : Nat) : Int) := by rw [wrap_id (by omega) (by omega)]; omega
    rw [Crc.bl_drop s i hlt]
    have hc : (Crc.bl s)[i]'(by rw [Crc.bl_length]; exact hlt) < 256 := Crc.bl_lt s _ (List.getElem_mem _)
    have e2 := Crc.bt_bl s i hlt
    generalize (Crc.bl s)[i]'(by rw [Crc.bl_length]; exact hlt) = c at hc e2 ⊢
    have e3 : wrap64 (bt s (i : Int)) = ((c : Nat) : Int) := by rw [e2]; exact wrap_id (by omega) (by omega)
    have e4 : Go.bits .xor .i64 (x : Int) (c : Int) = ((x ^^^ c : Nat) : Int) := xor_nat (by omega) (by omega)
    have hx' : x ^^^ c < 2 ^ 32 := Nat.xor_lt_two_pow hx (by omega)
    refine Ev.step (f := fun k => (spec_l5Byte.f k ((x ^^^ c : Nat) : Int)).bind fun t => spec_l5On.l0 k t s ((i + 1 : Nat) : Int)) (fun k => ?_) ?_
    · simp only [spec_l5On.l0, e1, e3, e4]
      rw [if_pos (by omega), if_pos (by omega)]
    · exact Ev.bind (f := fun k t => spec_l5On.l0 k t s ((i + 1 : Nat) : Int)) (spec_l5Byte_ev _ hx') (ih _ _ (Crc.shN_lt 8 hx') (by omega))
theorem spec_l5On_ev (x : Nat) (s : ByteArray) (hs : s.size ≤ 140737488351232) (hx : x < 2 ^ 32) : Ev (fun k => spec_l5On.f k (x : Int) s) ((Crc.sumL x (Crc.bl s) : Nat) : Int) := by
  have e : Go.bits .xor .i64 (x : Int) 4294967295 = ((x ^^^ Crc.ones : Nat) : Int) := xor_nat (a := x) (b := 4294967295) (by omega) (by decide)
  unfold spec_l5On.f
  rw [e]
  exact spec_l5On_l0 s hs s.size _ 0 (Nat.xor_lt_two_pow hx (by decide)) (by omega)

/-- What SumOn answers. -/
def sumOnV (a : Int) (s : ByteArray) : Int × Bool := if isS a && decide (s.size ≤ 400) then (((Crc.sumL a.toNat (Crc.bl s) : Nat) : Int), true) else (0, false)

theorem spec_SumOn_ev (a : Int) (s : ByteArray) (hs : s.size ≤ 140737488351232) : Ev (fun k => spec_SumOn.f k a s) (sumOnV a s) := by
  unfold spec_SumOn.f sumOnV
  simp only [spec_l5Sum_eq, Option.bind_some]
  cases ha : isS a
  · exact Ev.now _
  · obtain ⟨x, rfl, hx⟩ := isS_nat ha
    by_cases h : s.size ≤ 400
    · have h' : ¬ (s.size : Int) > 400 := by omega
      simp only [if_true, if_neg h', h, decide_true, Bool.and_self]
      exact Ev.bind (f := fun _ t => some (t, true)) (spec_l5On_ev x s hs hx) (Ev.now _)
    · have h' : (s.size : Int) > 400 := by omega
      simp only [if_true, if_pos h', h, decide_false, Bool.and_false]
      exact Ev.now _

theorem impl_within_eq (a b c : Int) : impl_within.f a b c = some (decide (b ≤ a ∧ a ≤ c)) := by
  unfold impl_within.f
  by_cases h : a ≥ b
  · rw [if_pos h]; congr 1; simp [show b ≤ a from h]
  · rw [if_neg h]; congr 1; simp; omega

theorem impl_isSummed_eq (a : Int) : impl_isSummed.f a = some (isL a) := by
  unfold impl_isSummed.f; rw [impl_within_eq]; rfl

theorem impl_isSum_eq (a : Int) : impl_isSum.f a = some (isS a) := by
  unfold impl_isSum.f; rw [impl_within_eq]; rfl

theorem impl_shifted_l0 : ∀ (n x i : Nat), x < 2 ^ 32 → n + i = 8 → Ev (fun k => impl_shifted.l0 k (x : Int) (i : Int)) ((Crc.shN n x : Nat) : Int) := by
  intro n
  induction n with
  | zero =>
    intro x i _ hi
    obtain rfl : i = 8 := by omega
    exact Ev.step (f := fun _ => some ((x : Nat) : Int)) (fun k => by simp only [impl_shifted.l0]; rw [if_neg (by omega)]) (Ev.now _)
  | succ n ih =>
    intro x i hx hi
    have e1 : wrap64 ((i : Int) + 1) = ((i + 1 : Nat) : Int) := by rw [wrap_id (by omega) (by omega)]; omega
    have e2 : Go.bits .xor .i64 ((x / 2 : Nat) : Int) 2197175160 = (((x / 2) ^^^ 2197175160 : Nat) : Int) := xor_nat (a := x / 2) (b := 2197175160) (by omega) (by decide)
    have e4 := and_one (a := x) (by omega)
    refine Ev.step (f := fun k => impl_shifted.l0 k ((Crc.sh1 x : Nat) : Int) ((i + 1 : Nat) : Int)) (fun k => ?_) (ih _ _ (Crc.sh1_lt hx) (by omega))
    simp only [impl_shifted.l0, e1, half_nat, e2, e4, Crc.sh1]
    rw [if_pos (by omega)]
    by_cases h1 : x % 2 = 1
    · rw [if_pos (show ((x % 2 : Nat) : Int) = 1 by omega), if_pos h1]
    · rw [if_neg (show ¬ ((x % 2 : Nat) : Int) = 1 by omega), if_neg h1]
theorem impl_shifted_ev (x : Nat) (hx : x < 2 ^ 32) : Ev (fun k => impl_shifted.f k (x : Int)) ((Crc.shN 8 x : Nat) : Int) := impl_shifted_l0 8 x 0 hx rfl

theorem impl_turned_eq (x : Nat) (hx : x < 2 ^ 32) : impl_turned.f (x : Int) = some ((x ^^^ Crc.ones : Nat) : Int) := by
  have e : Go.bits .xor .i64 (x : Int) 4294967295 = ((x ^^^ Crc.ones : Nat) : Int) := xor_nat (a := x) (b := 4294967295) (by omega) (by decide)
  unfold impl_turned.f
  rw [e]

theorem impl_sumOn_l0 (s : ByteArray) (hs : s.size ≤ 140737488351232) : ∀ (d x i : Nat), x < 2 ^ 32 → i + d = s.size → Ev (fun k => impl_sumOn.l0 k (x : Int) s (s.size : Int) (i : Int)) ((Crc.crcL ((Crc.bl s).drop i) x ^^^ Crc.ones : Nat) : Int) := by
  intro d
  induction d with
  | zero =>
    intro x i hx hi
    obtain rfl : i = s.size := by omega
    rw [Crc.bl_end]
    exact Ev.step (f := fun _ => some ((x ^^^ Crc.ones : Nat) : Int)) (fun k => by simp only [impl_sumOn.l0]; rw [if_neg (by omega), impl_turned_eq x hx]; rfl) (Ev.now _)
  | succ d ih =>
    intro x i hx hi
    have hlt : i < s.size := by omega
    have e1 : wrap64 ((i : Int) + 1) = ((i + 1 : Nat) : Int) := by rw [wrap_id (by omega) (by omega)]; omega
    rw [Crc.bl_drop s i hlt]
    have hc : (Crc.bl s)[i]'(by rw [Crc.bl_length]; exact hlt) < 256 := Crc.bl_lt s _ (List.getElem_mem _)
    have e2 := Crc.bt_bl s i hlt
    generalize (Crc.bl s)[i]'(by rw [Crc.bl_length]; exact hlt) = c at hc e2 ⊢
    have e3 : wrap64 (bt s (i : Int)) = ((c : Nat) : Int) := by rw [e2]; exact wrap_id (by omega) (by omega)
    have e4 : Go.bits .xor .i64 (x : Int) (c : Int) = ((x ^^^ c : Nat) : Int) := xor_nat (by omega) (by omega)
    have hx' : x ^^^ c < 2 ^ 32 := Nat.xor_lt_two_pow hx (by omega)
    refine Ev.step (f := fun k => (impl_shifted.f k ((x ^^^ c : Nat) : Int)).bind fun t => impl_sumOn.l0 k t s (s.size : Int) ((i + 1 : Nat) : Int)) (fun k => ?_) ?_
    · simp only [impl_sumOn.l0, e1, e3, e4]
      rw [if_pos (by omega), if_pos (by omega), if_pos (by omega)]
    · exact Ev.bind (f := fun k t => impl_sumOn.l0 k t s (s.size : Int) ((i + 1 : Nat) : Int)) (impl_shifted_ev _ hx') (ih _ _ (Crc.shN_lt 8 hx') (by omega))
theorem impl_sumOn_ev (x : Nat) (s : ByteArray) (hs : s.size ≤ 140737488351232) (hx : x < 2 ^ 32) : Ev (fun k => impl_sumOn.f k (x : Int) s) ((Crc.sumL x (Crc.bl s) : Nat) : Int) := by
  unfold impl_sumOn.f
  simp only [impl_turned_eq x hx, Option.bind_some]
  exact impl_sumOn_l0 s hs s.size _ 0 (Nat.xor_lt_two_pow hx (by decide)) (by omega)

theorem impl_SumOn_ev (a : Int) (s : ByteArray) (hs : s.size ≤ 140737488351232) : Ev (fun k => impl_SumOn.f k a s) (sumOnV a s) := by
  unfold impl_SumOn.f sumOnV
  simp only [impl_isSum_eq, impl_isSummed_eq, Option.bind_some]
  cases ha : isS a
  · exact Ev.now _
  · obtain ⟨x, rfl, hx⟩ := isS_nat ha
    by_cases h : s.size ≤ 400
    · have h' : isL (s.size : Int) = true := by simp only [isL, decide_eq_true_eq]; omega
      simp only [if_true, h', h, decide_true, Bool.and_self]
      exact Ev.bind (f := fun _ t => some (t, true)) (impl_sumOn_ev x s hs hx) (Ev.now _)
    · have h' : isL (s.size : Int) = false := by simp only [isL, decide_eq_false_iff_not]; omega
      simp only [if_true, h', h, decide_false, Bool.and_false]
      exact Ev.now _

/-- Two that answer alike: the law's end. -/
theorem same_two {A B : Nat → Option (Int × Bool)} {r : Int × Bool} (h1 : Ev A r) (h2 : Ev B r) :
    ∃ k, ((A k).bind fun p => (B k).bind fun q => if q.1 = p.1 then (if (q.2 != p.2) = true then some false else some true) else some false) = some true :=
  (Ev.bind (f := fun k p => (B k).bind fun q => if q.1 = p.1 then (if (q.2 != p.2) = true then some false else some true) else some false) h1
    (Ev.bind (f := fun _ q => if q.1 = r.1 then (if (q.2 != r.2) = true then some false else some true) else some false) h2 ⟨0, fun _ _ => by simp⟩)).rounds

theorem FnExactSumOn : laws_FnExactSumOn.Pure := by
  intro a s _ hs
  unfold laws_FnExactSumOn.f
  by_cases h : (s.size : Int) > 1048576
  · exact ⟨0, by rw [if_pos h]⟩
  · simp only [if_neg h]
    exact same_two (spec_SumOn_ev a s hs) (impl_SumOn_ev a s hs)

end Go.Proofs.Ythaffjolcghkoaa.Pure
