/- BurstAt answers as the reference's does, for all texts and numbers. No conditions beyond the row's own. -/
import Derived.Test.YthaffjolcghkoaaMFnExactBurstAtx2
import Derived.Test.YthaffjolcghkoaaBit
import Derived.Test.YthaffjolcghkoaaCrc
import Derived.Test.YthaffjolcghkoaaBurst
set_option linter.unusedVariables false
set_option linter.unusedSimpArgs false
namespace Go.Proofs.Ythaffjolcghkoaa.Pure
open Go.RowKit Go.Proofs.Ythaffjolcghkoaa Go.Proofs.Ythaffjolcghkoaa.MFnExactBurstAt Go.Proofs.YthaffjolcghkoaaW.PrintWords Go.Proofs.YthaffjolcghkoaaW.PrintLast Go.Proofs.Ythaffjolcghkoaa.Bit

theorem impl_within_eq (a b c : Int) : impl_within.f a b c = some (decide (b ≤ a ∧ a ≤ c)) := by
  unfold impl_within.f
  by_cases h : a ≥ b
  · rw [if_pos h]; congr 1; simp [show b ≤ a from h]
  · rw [if_neg h]; congr 1; simp; omega

theorem spec_l1In_eq (a b c : Int) : spec_l1In.f a b c = some (decide (b ≤ a ∧ a ≤ c)) := by
  unfold spec_l1In.f
  by_cases h : a ≥ b
  · rw [if_pos h]; congr 1; simp [show b ≤ a from h]
  · rw [if_neg h]; congr 1; simp; omega

/-- Is a number of 32 bits? -/
def isS (a : Int) : Bool := decide (0 ≤ a ∧ a ≤ 4294967295)
theorem isS_nat {a : Int} (h : isS a = true) : ∃ n : Nat, a = (n : Int) ∧ n < 2 ^ 32 := by
  simp only [isS, decide_eq_true_eq] at h
  exact ⟨a.toNat, by omega, by omega⟩
def isL (a : Int) : Bool := decide (0 ≤ a ∧ a ≤ 400)
theorem isL_nat {a : Int} (h : isL a = true) : ∃ n : Nat, a = (n : Int) ∧ n ≤ 400 := by
  simp only [isL, decide_eq_true_eq] at h
  exact ⟨a.toNat, by omega, by omega⟩

theorem spec_l5Sum_eq (a : Int) : spec_l5Sum.f a = some (isS a) := by
  unfold spec_l5Sum.f; rw [spec_l1In_eq]; rfl

def nl (l : List Nat) : List Int := l.map fun n : Nat => (n : Int)
theorem nl_length (l : List Nat) : (nl l).length = l.length := by unfold nl; rw [List.length_map]
theorem bytesOf_nl (s : ByteArray) : bytesOf s = nl (Crc.bl s) := by
  unfold bytesOf nl Crc.bl
  rw [List.map_map]; rfl
theorem nl_rd (l : List Nat) (q : Nat) (hq : q < l.length) : rd (nl l) (q : Int) = ((l.getD q 0 : Nat) : Int) := by
  unfold rd nl
  rw [Int.toNat_natCast, List.getD_eq_getElem?_getD, List.getD_eq_getElem?_getD, List.getElem?_map, List.getElem?_eq_getElem hq]; rfl
theorem nl_set (l : List Nat) (q v : Nat) : (nl l).set q (v : Int) = nl (l.set q v) := by
  unfold nl
  rw [List.map_set]
theorem xor_byte {a b : Nat} (ha : a < 256) (hb : b < 256) : Go.bits .xor .u8 (a : Int) (b : Int) = ((a ^^^ b : Nat) : Int) := by
  have h : Go.bits .xor .u8 (a : Int) (b : Int) = IntKind.u8.wrap ((BitVec.ofInt 8 (a : Int) ^^^ BitVec.ofInt 8 (b : Int)).toNat : Int) := rfl
  have hx : a ^^^ b < 256 := Nat.xor_lt_two_pow (n := 8) ha hb
  rw [h, BitVec.toNat_xor, BitVec.ofInt_natCast, BitVec.ofInt_natCast, BitVec.toNat_ofNat, BitVec.toNat_ofNat, Nat.mod_eq_of_lt (by omega), Nat.mod_eq_of_lt (by omega)]
  have h2 : IntKind.u8.wrap ((a ^^^ b : Nat) : Int) = (((a ^^^ b : Nat) : Int)) % 256 := by simp [IntKind.wrap, IntKind.bits, IntKind.signed]
  rw [h2]; omega
theorem u64_nat (n : Nat) (h : n < 2 ^ 63) : IntKind.u64.wrap (n : Int) = (n : Int) := by
  have h' : n < 9223372036854775808 := h
  rw [IntKind.wrap_u64]; omega
theorem shl_one (m : Nat) (h : m < 8) : shl .u8 1 (m : Int) = ((2 ^ m : Nat) : Int) := by
  have : ∀ m : Fin 8, shl .u8 1 ((m.1 : Nat) : Int) = ((2 ^ m.1 : Nat) : Int) := by decide
  exact this ⟨m, h⟩
theorem shr_nat (c m : Nat) (h : m ≤ 64) : shr .i64 (c : Int) (m : Int) = ((c / 2 ^ m : Nat) : Int) := by
  unfold shr
  have hb : IntKind.i64.bits = 64 := rfl
  rw [Int.toNat_natCast, hb, Nat.min_eq_left h, Int.natCast_ediv, Int.natCast_pow]; rfl
theorem tdiv_nat (p : Nat) : Int.tdiv (p : Int) 8 = ((p / 8 : Nat) : Int) := rfl
theorem tmod_nat (p : Nat) : Int.tmod (p : Int) 8 = ((p % 8 : Nat) : Int) := rfl
theorem burst_zero : ∀ (d : Nat) (l : List Nat) (p : Nat), Burst.burst d l p 0 = l
  | 0, _, _ => rfl
  | d + 1, l, p => by
    unfold Burst.burst
    split
    · rw [if_neg (by omega)]; exact burst_zero d l (p + 1)
    · rfl
theorem bs_bl (s : ByteArray) : Burst.Bs (Crc.bl s) := Crc.bl_lt s
/-- A text with a burst. -/
def burstV (s : ByteArray) (a b : Int) : ByteArray × Bool :=
  if (s.size ≤ 400 ∧ 0 ≤ a ∧ a < 8 * (s.size : Int)) ∧ isS b = true then (strOfNums (nl (Burst.burst 32 (Crc.bl s) a.toNat b.toNat)), true) else (⟨#[]⟩, false)

theorem spec_BurstAt_l0 (s : ByteArray) (hs : s.size ≤ 400) (p c : Nat) (hp : p < 4000) (hc : c < 4294967296) : ∀ (d i : Nat) (l : List Nat), Burst.Bs l → l.length = s.size → i + d = 32 →
    Ev (fun k => spec_BurstAt.l0 k s (p : Int) (c : Int) (nl l) (i : Int)) (strOfNums (nl (Burst.burst d l (p + i) (c / 2 ^ i))), true) := by
  intro d
  have fin : ∀ (l : List Nat) (i : Nat), Ev (fun k => spec_BurstAt.j2 k s (p : Int) (c : Int) (nl l) (i : Int) false) (strOfNums (nl l), true) := fun l i =>
    Ev.step (f := fun _ => some (strOfNums (nl l), true)) (fun k => by rw [spec_BurstAt.j2.eq_2, if_neg (by decide)]) (Ev.now _)
  induction d with
  | zero =>
    intro i l _ _ hi
    obtain rfl : i = 32 := by omega
    refine Ev.step (f := fun k => spec_BurstAt.j2 k s (p : Int) (c : Int) (nl l) ((32 : Nat) : Int) false) (fun k => ?_) (fin l 32)
    rw [spec_BurstAt.l0.eq_2, if_neg (by omega)]
  | succ d ih =>
    intro i l hb hl hi
    have e1 : wrap64 ((p : Int) + (i : Int)) = ((p + i : Nat) : Int) := by rw [wrap_id (by omega) (by omega)]; omega
    have e2 : wrap64 (8 * (s.size : Int)) = ((8 * s.size : Nat) : Int) := by rw [wrap_id (by omega) (by omega)]; omega
    have e3 : wrap64 ((i : Int) + 1) = ((i + 1 : Nat) : Int) := by rw [wrap_id (by omega) (by omega)]; omega
    have eq : wrap64 ((((p + i) / 8 : Nat)) : Int) = (((p + i) / 8 : Nat) : Int) := wrap_id (by omega) (by omega)
    refine Ev.step (f := fun k => spec_BurstAt.j2 k s (p : Int) (c : Int) (nl l) (i : Int) (decide (p + i < 8 * s.size))) (fun k => ?_) ?_
    · rw [spec_BurstAt.l0.eq_2, if_pos (by omega), e1, e2]
      have hd : decide (((p + i : Nat) : Int) < ((8 * s.size : Nat) : Int)) = decide (p + i < 8 * s.size) := by
        clear hc ih fin e1 e2 e3 eq
        by_cases hz : p + i < 8 * s.size
        · rw [decide_eq_true hz, decide_eq_true (by omega)]
        · rw [decide_eq_false hz, decide_eq_false (by omega)]
      rw [hd]
    by_cases hlt : p + i < 8 * s.size
    rotate_left
    · rw [decide_eq_false hlt]
      unfold Burst.burst
      rw [if_neg (by omega)]
      exact fin l i
    rw [decide_eq_true hlt]
    have hbit : Go.bits .and .i64 (shr .i64 (c : Int) (i : Int)) 1 = ((c / 2 ^ i % 2 : Nat) : Int) := by
      rw [shr_nat c i (by omega), and_one (Nat.lt_of_le_of_lt (Nat.div_le_self _ _) (Nat.lt_trans hc (by decide)))]
    have hcc : c / 2 ^ i / 2 = c / 2 ^ (i + 1) := by rw [Nat.div_div_eq_div_mul, Nat.pow_succ]
    unfold Burst.burst
    rw [if_pos (by omega), hcc, Nat.add_assoc]
    refine Ev.step (f := fun k => spec_BurstAt.l0 k s (p : Int) (c : Int) (nl (if c / 2 ^ i % 2 = 1 then Burst.flip l (p + i) else l)) ((i + 1 : Nat) : Int)) (fun k => ?_) ?_
    · rw [spec_BurstAt.j2.eq_2, if_pos rfl, u64_nat i (by omega), if_pos (by omega), hbit]
      by_cases h1 : c / 2 ^ i % 2 = 1
      · have hq : (p + i) / 8 < l.length := by omega
        rw [if_pos (by omega), e1, tdiv_nat, tmod_nat, eq, u64_nat ((p + i) % 8) (by omega), if_pos (by omega), if_pos (by rw [nl_length]; omega), if_pos (by omega), if_pos h1, shl_one _ (by omega), nl_rd l _ hq, xor_byte (Burst.getD_lt hb _) (Burst.pow_byte _), Int.toNat_natCast, nl_set, e3]
        rfl
      · rw [if_neg (by omega), if_neg h1, e3]
    · exact ih (i + 1) _ (by split; exact Burst.flip_bytes hb _; exact hb) (by split; rw [Burst.flip_length]; exact hl; exact hl) (by omega)
theorem spec_BurstAt_ev (s : ByteArray) (hs0 : s.size ≤ 140737488351232) (a b : Int) : Ev (fun k => spec_BurstAt.f k s a b) (burstV s a b) := by
  have e2 : wrap64 (8 * (s.size : Int)) = 8 * (s.size : Int) := wrap_id (by omega) (by omega)
  have bad : Ev (fun k => spec_BurstAt.j0 k s a b true) ((⟨#[]⟩ : ByteArray), false) := Ev.step (f := fun _ => some ((⟨#[]⟩ : ByteArray), false)) (fun k => by rw [spec_BurstAt.j0.eq_2, if_pos rfl]) (Ev.now _)
  unfold spec_BurstAt.f burstV
  by_cases h1 : (s.size : Int) > 400
  · simp only [if_pos h1]; rw [if_neg (by omega)]; exact bad
  simp only [if_neg h1]
  by_cases h2 : a < 0
  · simp only [if_pos h2]; rw [if_neg (by omega)]; exact bad
  simp only [if_neg h2, e2]
  by_cases h3 : a ≥ 8 * (s.size : Int)
  · simp only [if_pos h3]; rw [if_neg (by omega)]; exact bad
  simp only [if_neg h3, spec_l5Sum_eq, Option.bind_some]
  cases hb : isS b
  · rw [if_neg (by simp)]; exact bad
  · rw [if_pos ⟨⟨by omega, by omega, by omega⟩, rfl⟩]
    obtain ⟨c, rfl, hc⟩ := isS_nat hb
    replace hc : c < 4294967296 := hc
    obtain ⟨p, rfl⟩ := nat_of (a := a) (by omega)
    rw [Int.toNat_natCast, Int.toNat_natCast]
    refine Ev.step (f := fun k => spec_BurstAt.l0 k s (p : Int) (c : Int) (nl (Crc.bl s)) ((0 : Nat) : Int)) (fun k => ?_) ?_
    · rw [spec_BurstAt.j0.eq_2, if_neg (by decide), bytesOf_nl]; rfl
    · have := spec_BurstAt_l0 s (by omega) p c (by omega) hc 32 0 (Crc.bl s) (bs_bl s) (Crc.bl_length s) rfl
      rwa [Nat.pow_zero, Nat.div_one, Nat.add_zero] at this

theorem impl_isSummed_eq (a : Int) : impl_isSummed.f a = some (isL a) := by
  unfold impl_isSummed.f; rw [impl_within_eq]; rfl

theorem impl_isSum_eq (a : Int) : impl_isSum.f a = some (isS a) := by
  unfold impl_isSum.f; rw [impl_within_eq]; rfl

theorem impl_BurstAt_l0 : ∀ (d : Nat) (l : List Nat) (p c : Nat), Burst.Bs l → l.length ≤ 400 → p + d < 5000 → c < 2 ^ d → d ≤ 32 →
    Ev (fun k => impl_BurstAt.l0 k (p : Int) (c : Int) (nl l)) (strOfNums (nl (Burst.burst d l p c)), true) := by
  intro d
  have fin : ∀ (l : List Nat) (p : Nat), Ev (fun k => impl_BurstAt.l0 k (p : Int) ((0 : Nat) : Int) (nl l)) (strOfNums (nl l), true) := fun l p =>
    Ev.step (f := fun _ => some (strOfNums (nl l), true)) (fun k => by rw [impl_BurstAt.l0.eq_2, if_neg (by omega)]) (Ev.now _)
  induction d with
  | zero =>
    intro l p c _ _ _ hc _
    obtain rfl : c = 0 := by omega
    exact fin l p
  | succ d ih =>
    intro l p c hb hl hp hc hd
    by_cases h0 : c = 0
    · subst h0
      rw [burst_zero]; exact fin l p
    have eq : wrap64 ((p / 8 : Nat) : Int) = ((p / 8 : Nat) : Int) := wrap_id (by omega) (by omega)
    have ep : wrap64 ((p : Int) + 1) = ((p + 1 : Nat) : Int) := by rw [wrap_id (by omega) (by omega)]; omega
    unfold Burst.burst
    by_cases hlt : p < 8 * l.length
    rotate_left
    · rw [if_neg hlt]
      refine Ev.step (f := fun _ => some (strOfNums (nl l), true)) (fun k => ?_) (Ev.now _)
      rw [impl_BurstAt.l0.eq_2, if_pos (by omega), tdiv_nat, eq, if_neg (by rw [nl_length]; omega)]
    have hq : p / 8 < l.length := by omega
    have hbit : Go.bits .and .i64 (c : Int) 1 = ((c % 2 : Nat) : Int) := and_one (Nat.lt_of_lt_of_le hc (Nat.le_trans (Nat.pow_le_pow_right (by decide) hd) (by decide)))
    have hsh : shl .i64 ((c % 2 : Nat) : Int) ((p % 8 : Nat) : Int) % 256 = ((c % 2 * 2 ^ (p % 8) : Nat) : Int) := by
      have : ∀ (x : Fin 2) (m : Fin 8), shl .i64 ((x.1 : Nat) : Int) ((m.1 : Nat) : Int) % 256 = ((x.1 * 2 ^ m.1 : Nat) : Int) := by decide
      exact this ⟨c % 2, by omega⟩ ⟨p % 8, by omega⟩
    have hlb : c % 2 * 2 ^ (p % 8) < 256 := by
      have := Burst.pow_byte p
      rcases Nat.mod_two_eq_zero_or_one c with h | h <;> rw [h] <;> omega
    rw [if_pos hlt]
    refine Ev.step (f := fun k => impl_BurstAt.l0 k ((p + 1 : Nat) : Int) ((c / 2 : Nat) : Int) (nl (if c % 2 = 1 then Burst.flip l p else l))) (fun k => ?_) ?_
    · rw [impl_BurstAt.l0.eq_2, if_pos (by omega), tdiv_nat, tmod_nat, eq, if_pos (by rw [nl_length]; omega), if_pos (by omega), if_pos (by omega), hbit, hsh, nl_rd l _ hq, xor_byte (Burst.getD_lt hb _) hlb, Int.toNat_natCast, nl_set, ep, half_nat]
      congr 2
      by_cases h1 : c % 2 = 1
      · rw [if_pos h1, h1, Nat.one_mul]; rfl
      · rw [if_neg h1, show c % 2 = 0 by omega, Nat.zero_mul, Nat.xor_zero, List.getD_eq_getElem?_getD, List.getElem?_eq_getElem hq]
        exact List.set_getElem_self hq
    · exact ih _ (p + 1) (c / 2) (by split; exact Burst.flip_bytes hb _; exact hb) (by split; rw [Burst.flip_length]; exact hl; exact hl) (by omega) (by rw [Nat.pow_succ] at hc; omega) (by omega)
theorem impl_BurstAt_ev (s : ByteArray) (hs0 : s.size ≤ 140737488351232) (a b : Int) (ha : a ≤ 9223372036854775807) : Ev (fun k => impl_BurstAt.f k s a b) (burstV s a b) := by
  have bad : Ev (fun k => impl_BurstAt.j0 k s a b true) ((⟨#[]⟩ : ByteArray), false) := Ev.step (f := fun _ => some ((⟨#[]⟩ : ByteArray), false)) (fun k => by rw [impl_BurstAt.j0.eq_2, if_pos rfl]) (Ev.now _)
  unfold impl_BurstAt.f burstV
  simp only [impl_isSummed_eq, impl_isSum_eq, Option.bind_some]
  by_cases h1 : s.size ≤ 400
  rotate_left
  · have : isL (s.size : Int) = false := by unfold isL; exact decide_eq_false (by omega)
    simp only [this, Bool.false_eq_true, if_false]; rw [if_neg (by omega)]; exact bad
  have hL : isL (s.size : Int) = true := by unfold isL; exact decide_eq_true (by omega)
  simp only [hL, if_true]
  by_cases h2 : a < 0
  · simp only [if_pos h2]; rw [if_neg (by omega)]; exact bad
  simp only [if_neg h2]
  obtain ⟨p, rfl⟩ := nat_of (a := a) (by omega)
  have ew : wrap64 ((p / 8 : Nat) : Int) = ((p / 8 : Nat) : Int) := wrap_id (by omega) (by omega)
  simp only [tdiv_nat, ew]
  by_cases h3 : ((p / 8 : Nat) : Int) ≥ (s.size : Int)
  · simp only [if_pos h3]; rw [if_neg (by omega)]; exact bad
  simp only [if_neg h3]
  cases hb : isS b
  · rw [if_neg (by simp)]; exact bad
  · rw [if_pos ⟨⟨by omega, by omega, by omega⟩, rfl⟩]
    obtain ⟨c, rfl, hc⟩ := isS_nat hb
    rw [Int.toNat_natCast, Int.toNat_natCast]
    refine Ev.step (f := fun k => impl_BurstAt.l0 k (p : Int) (c : Int) (nl (Crc.bl s))) (fun k => ?_) ?_
    · rw [impl_BurstAt.j0.eq_2, if_neg (by decide), bytesOf_nl]
    · exact impl_BurstAt_l0 32 (Crc.bl s) p c (bs_bl s) (by rw [Crc.bl_length]; exact h1) (by clear hc; omega) hc (Nat.le_refl _)

theorem nat_nn (n : Nat) : ((n : Int) < 0) = False := by simp
theorem one_nat : (1 : Int) = ((1 : Nat) : Int) := rfl
theorem one_nn (n : Nat) : (((n : Nat) : Int) = ((n : Nat) : Int)) = True := by simp

theorem FnExactBurstAt : laws_FnExactBurstAt.Pure := by
  intro s a b hs ha _
  have E1 := spec_BurstAt_ev s hs a b
  have E2 := impl_BurstAt_ev s hs a b ((wf_iff a).1 ha).2
  generalize burstV s a b = g at E1 E2
  refine Ev.rounds ?_
  unfold laws_FnExactBurstAt.f
  by_cases hs : (s.size : Int) > 1048576
  · simp only [if_pos hs]; exact Ev.now _
  simp only [if_neg hs]
  repeat' first
    | exact Ev.now _
    | refine Ev.bind (by assumption) ?_
    | simp only [decide_true, decide_false, if_true, if_false, bne_self_eq_false, Bool.false_eq_true, Bool.not_true, Bool.not_false, Bool.and_true, Bool.and_self, nat_nn, Option.bind_some, beq_self_eq_true, one_nn]

end Go.Proofs.Ythaffjolcghkoaa.Pure
