/- JoinSums answers as the reference's JoinSums does, for all whole numbers. No conditions beyond the row's own. -/
import Derived.Test.YthaffjolcghkoaaPFnExactJoinSumsx1
import Derived.Test.YthaffjolcghkoaaBit
import Derived.Test.YthaffjolcghkoaaCrc
set_option linter.unusedVariables false
set_option linter.unusedSimpArgs false
namespace Go.Proofs.Ythaffjolcghkoaa.Pure
open Go.RowKit Go.Proofs.Ythaffjolcghkoaa Go.Proofs.Ythaffjolcghkoaa.PFnExactJoinSums Go.Proofs.YthaffjolcghkoaaW.PrintWords Go.Proofs.YthaffjolcghkoaaW.PrintLast Go.Proofs.Ythaffjolcghkoaa.Bit

theorem spec_l1In_eq (a b c : Int) : spec_l1In.f a b c = some (decide (b ≤ a ∧ a ≤ c)) := by
  unfold spec_l1In.f
  by_cases h : a ≥ b
  · rw [if_pos h]; congr 1; simp [show b ≤ a from h]
  · rw [if_neg h]; congr 1; simp; omega

/-- Is a number of 32 bits? -/
def isS (a : Int) : Bool := decide (0 ≤ a ∧ a ≤ 4294967295)
theorem isS_nat {a : Int} (h : isS a = true) : ∃ n : Nat, a = (n : Int) ∧ n < 2 ^ 32 := by
  simp only [isS, decide_eq_true_eq] at h
  exact ⟨a.toNat, by omega, by omega⟩
def isL (a : Int) : Bool := decide (0 ≤ a ∧ a ≤ 400)
theorem isL_nat {a : Int} (h : isL a = true) : ∃ n : Nat, a = (n : Int) ∧ n ≤ 400 := by
  simp only [isL, decide_eq_true_eq] at h
  exact ⟨a.toNat, by omega, by omega⟩

theorem spec_l5Sum_eq (a : Int) : spec_l5Sum.f a = some (isS a) := by
  unfold spec_l5Sum.f; rw [spec_l1In_eq]; rfl

theorem spec_l5Byte_l0 : ∀ (n x i : Nat), x < 2 ^ 32 → n + i = 8 → Ev (fun k => spec_l5Byte.l0 k (x : Int) (i : Int)) ((Crc.shN n x : Nat) : Int) := by
  intro n
  induction n with
  | zero =>
    intro x i _ hi
    obtain rfl : i = 8 := by omega
    exact Ev.step (f := fun _ => some ((x : Nat) : Int)) (fun k => by simp only [spec_l5Byte.l0]; rw [if_neg (by omega)]) (Ev.now _)
  | succ n ih =>
    intro x i hx hi
    have e1 : wrap64 ((i : Int) + 1) = ((i + 1 : Nat) : Int) := by rw [wrap_id (by omega) (by omega)]; omega
    have e2 : Go.bits .xor .i64 ((x / 2 : Nat) : Int) 2197175160 = (((x / 2) ^^^ 2197175160 : Nat) : Int) := xor_nat (a := x / 2) (b := 2197175160) (by omega) (by decide)
    have e4 := and_one (a := x) (by omega)
    refine Ev.step (f := fun k => spec_l5Byte.l0 k ((Crc.sh1 x : Nat) : Int) ((i + 1 : Nat) : Int)) (fun k => ?_) (ih _ _ (Crc.sh1_lt hx) (by omega))
    simp only [spec_l5Byte.l0, e1, half_nat, e2, e4, Crc.sh1]
    rw [if_pos (by omega)]
    by_cases h1 : x % 2 = 1
    · rw [if_pos (show ((x % 2 : Nat) : Int) = 1 by omega), if_pos h1]
    · rw [if_neg (show ¬ ((x % 2 : Nat) : Int) = 1 by omega), if_neg h1]
theorem spec_l5Byte_ev (x : Nat) (hx : x < 2 ^ 32) : Ev (fun k => spec_l5Byte.f k (x : Int)) ((Crc.shN 8 x : Nat) : Int) := spec_l5Byte_l0 8 x 0 hx rfl

/-- What JoinSums answers. -/
def joinV (a b n : Int) : Int × Bool := if isS a && isS b && isL n then (((Crc.shN (8 * n.toNat) a.toNat ^^^ b.toNat : Nat) : Int), true) else (0, false)

theorem spec_JoinSums_l0 (b : Nat) (hb : b < 2 ^ 32) : ∀ (n a : Nat), a < 2 ^ 32 → n ≤ 400 → Ev (fun k => spec_JoinSums.l0 k (a : Int) (b : Int) (n : Int)) (((Crc.shN (8 * n) a ^^^ b : Nat) : Int), true) := by
  intro n
  induction n with
  | zero =>
    intro a ha _
    have e : Go.bits .xor .i64 (a : Int) (b : Int) = ((a ^^^ b : Nat) : Int) := xor_nat (by omega) (by omega)
    exact Ev.step (f := fun _ => some (((a ^^^ b : Nat) : Int), true)) (fun k => by simp only [spec_JoinSums.l0]; rw [if_neg (by omega), e]) (Ev.now _)
  | succ n ih =>
    intro a ha hn
    have e1 : wrap64 (((n + 1 : Nat) : Int) - 1) = (n : Int) := by rw [wrap_id (by omega) (by omega)]; omega
    have : 8 * (n + 1) = 8 + 8 * n := by omega
    rw [this, Crc.shN_add]
    refine Ev.step (f := fun k => (spec_l5Byte.f k (a : Int)).bind fun t => spec_JoinSums.l0 k t (b : Int) (n : Int)) (fun k => ?_) ?_
    · simp only [spec_JoinSums.l0, e1]
      rw [if_pos (by omega)]
    · exact Ev.bind (f := fun k t => spec_JoinSums.l0 k t (b : Int) (n : Int)) (spec_l5Byte_ev _ ha) (ih _ (Crc.shN_lt 8 ha) (by omega))
theorem spec_JoinSums_ev (a b n : Int) : Ev (fun k => spec_JoinSums.f k a b n) (joinV a b n) := by
  have no : Ev (fun k => spec_JoinSums.j0 k a b n true) (0, false) := Ev.step (f := fun _ => some (0, false)) (fun k => by simp only [spec_JoinSums.j0]; rfl) (Ev.now _)
  unfold spec_JoinSums.f joinV
  simp only [spec_l5Sum_eq, spec_l1In_eq, Option.bind_some]
  cases ha : isS a
  · exact no
  · cases hb : isS b
    · exact no
    · show Ev (fun k => spec_JoinSums.j0 k a b n (!isL n)) _
      cases hn : isL n
      · exact no
      · obtain ⟨x, rfl, hx⟩ := isS_nat ha
        obtain ⟨y, rfl, hy⟩ := isS_nat hb
        obtain ⟨m, rfl, hm⟩ := isL_nat hn
        exact Ev.step (f := fun k => spec_JoinSums.l0 k (x : Int) (y : Int) (m : Int)) (fun k => by simp only [spec_JoinSums.j0]; rfl) (spec_JoinSums_l0 y hy m x hx hm)

theorem impl_within_eq (a b c : Int) : impl_within.f a b c = some (decide (b ≤ a ∧ a ≤ c)) := by
  unfold impl_within.f
  by_cases h : a ≥ b
  · rw [if_pos h]; congr 1; simp [show b ≤ a from h]
  · rw [if_neg h]; congr 1; simp; omega

theorem impl_isSummed_eq (a : Int) : impl_isSummed.f a = some (isL a) := by
  unfold impl_isSummed.f; rw [impl_within_eq]; rfl

theorem impl_isSum_eq (a : Int) : impl_isSum.f a = some (isS a) := by
  unfold impl_isSum.f; rw [impl_within_eq]; rfl

theorem impl_shifted_l0 : ∀ (n x i : Nat), x < 2 ^ 32 → n + i = 8 → Ev (fun k => impl_shifted.l0 k (x : Int) (i : Int)) ((Crc.shN n x : Nat) : Int) := by
  intro n
  induction n with
  | zero =>
    intro x i _ hi
    obtain rfl : i = 8 := by omega
    exact Ev.step (f := fun _ => some ((x : Nat) : Int)) (fun k => by simp only [impl_shifted.l0]; rw [if_neg (by omega)]) (Ev.now _)
  | succ n ih =>
    intro x i hx hi
    have e1 : wrap64 ((i : Int) + 1) = ((i + 1 : Nat) : Int) := by rw [wrap_id (by omega) (by omega)]; omega
    have e2 : Go.bits .xor .i64 ((x / 2 : Nat) : Int) 2197175160 = (((x / 2) ^^^ 2197175160 : Nat) : Int) := xor_nat (a := x / 2) (b := 2197175160) (by omega) (by decide)
    have e4 := and_one (a := x) (by omega)
    refine Ev.step (f := fun k => impl_shifted.l0 k ((Crc.sh1 x : Nat) : Int) ((i + 1 : Nat) : Int)) (fun k => ?_) (ih _ _ (Crc.sh1_lt hx) (by omega))
    simp only [impl_shifted.l0, e1, half_nat, e2, e4, Crc.sh1]
    rw [if_pos (by omega)]
    by_cases h1 : x % 2 = 1
    · rw [if_pos (show ((x % 2 : Nat) : Int) = 1 by omega), if_pos h1]
    · rw [if_neg (show ¬ ((x % 2 : Nat) : Int) = 1 by omega), if_neg h1]
theorem impl_shifted_ev (x : Nat) (hx : x < 2 ^ 32) : Ev (fun k => impl_shifted.f k (x : Int)) ((Crc.shN 8 x : Nat) : Int) := impl_shifted_l0 8 x 0 hx rfl

theorem impl_JoinSums_l0 (b m : Nat) (hb : b < 2 ^ 32) (hm : m ≤ 400) : ∀ (n i a : Nat), a < 2 ^ 32 → i + n = m → Ev (fun k => impl_JoinSums.l0 k (a : Int) (b : Int) (m : Int) (i : Int)) (((Crc.shN (8 * n) a ^^^ b : Nat) : Int), true) := by
  intro n
  induction n with
  | zero =>
    intro i a ha hi
    have e : Go.bits .xor .i64 (a : Int) (b : Int) = ((a ^^^ b : Nat) : Int) := xor_nat (by omega) (by omega)
    exact Ev.step (f := fun _ => some (((a ^^^ b : Nat) : Int), true)) (fun k => by simp only [impl_JoinSums.l0]; rw [if_neg (by omega), e]) (Ev.now _)
  | succ n ih =>
    intro i a ha hi
    have e1 : wrap64 ((i : Int) + 1) = ((i + 1 : Nat) : Int) := by rw [wrap_id (by omega) (by omega)]; omega
    have : 8 * (n + 1) = 8 + 8 * n := by omega
    rw [this, Crc.shN_add]
    refine Ev.step (f := fun k => (impl_shifted.f k (a : Int)).bind fun t => impl_JoinSums.l0 k t (b : Int) (m : Int) ((i + 1 : Nat) : Int)) (fun k => ?_) ?_
    · simp only [impl_JoinSums.l0, e1]
      rw [if_pos (by omega)]
    · exact Ev.bind (f := fun k t => impl_JoinSums.l0 k t (b : Int) (m : Int) ((i + 1 : Nat) : Int)) (impl_shifted_ev _ ha) (ih _ _ (Crc.shN_lt 8 ha) (by omega))
theorem impl_JoinSums_ev (a b n : Int) : Ev (fun k => impl_JoinSums.f k a b n) (joinV a b n) := by
  have no : Ev (fun k => impl_JoinSums.j0 k a b n true) (0, false) := Ev.step (f := fun _ => some (0, false)) (fun k => by simp only [impl_JoinSums.j0]; rfl) (Ev.now _)
  unfold impl_JoinSums.f joinV
  simp only [impl_isSum_eq, impl_isSummed_eq, Option.bind_some]
  cases ha : isS a
  · exact no
  · cases hb : isS b
    · exact no
    · cases hn : isL n
      · exact no
      · obtain ⟨x, rfl, hx⟩ := isS_nat ha
        obtain ⟨y, rfl, hy⟩ := isS_nat hb
        obtain ⟨m, rfl, hm⟩ := isL_nat hn
        exact Ev.step (f := fun k => impl_JoinSums.l0 k (x : Int) (y : Int) (m : Int) ((0 : Nat) : Int)) (fun k => by simp only [impl_JoinSums.j0]; rfl) (impl_JoinSums_l0 y m hy hm m 0 x hx (by omega))

/-- Two that answer alike: the law's end. -/
theorem same_two {A B : Nat → Option (Int × Bool)} {r : Int × Bool} (h1 : Ev A r) (h2 : Ev B r) :
    ∃ k, ((A k).bind fun p => (B k).bind fun q => if q.1 = p.1 then (if (q.2 != p.2) = true then some false else some true) else some false) = some true :=
  (Ev.bind (f := fun k p => (B k).bind fun q => if q.1 = p.1 then (if (q.2 != p.2) = true then some false else some true) else some false) h1
    (Ev.bind (f := fun _ q => if q.1 = r.1 then (if (q.2 != r.2) = true then some false else some true) else some false) h2 ⟨0, fun _ _ => by simp⟩)).rounds

theorem FnExactJoinSums : laws_FnExactJoinSums.Pure := fun a b n _ _ _ => same_two (spec_JoinSums_ev a b n) (impl_JoinSums_ev a b n)

end Go.Proofs.Ythaffjolcghkoaa.Pure
