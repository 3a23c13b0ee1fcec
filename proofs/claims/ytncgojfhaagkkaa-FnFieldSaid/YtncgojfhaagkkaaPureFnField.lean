/- Bytes are a field, of which 2 makes all but 0 (Galois): the walk of the law. No conditions beyond the row's own. -/
import Derived.Test.YtncgojfhaagkkaaMFnFieldx3
import Derived.Test.YtncgojfhaagkkaaMFnFieldx0
import Derived.Test.YtncgojfhaagkkaaMFnFieldx1
import Derived.Test.YtncgojfhaagkkaaMFnFieldx2
import Derived.Test.YtncgojfhaagkkaaBit
import Derived.Test.YtncgojfhaagkkaaGfx
set_option linter.unusedVariables false
set_option linter.unusedSimpArgs false
namespace Go.Proofs.Ytncgojfhaagkkaa.Pure
open Go.RowKit Go.Proofs.Ytncgojfhaagkkaa Go.Proofs.Ytncgojfhaagkkaa.MFnField Go.Proofs.YtncgojfhaagkkaaW.PrintWords Go.Proofs.YtncgojfhaagkkaaW.PrintLast Go.Proofs.Ytncgojfhaagkkaa.Bit

theorem impl_within_eq (a b c : Int) : impl_within.f a b c = some (decide (b ≤ a ∧ a ≤ c)) := by
  unfold impl_within.f
  by_cases h : a ≥ b
  · rw [if_pos h]; congr 1; simp [show b ≤ a from h]
  · rw [if_neg h]; congr 1; simp; omega

/-- Is a number an element? -/
def isB (a : Int) : Bool := decide (0 ≤ a ∧ a ≤ 255)
theorem isB_nat {a : Int} (h : isB a = true) : ∃ n : Nat, a = (n : Int) ∧ n < 256 := by
  simp only [isB, decide_eq_true_eq] at h
  exact ⟨a.toNat, by omega, by omega⟩
theorem isB_cast {n : Nat} (h : n < 256) : isB (n : Int) = true := by simp only [isB, decide_eq_true_eq]; omega

theorem impl_isGf_eq (a : Int) : impl_isGf.f a = some (isB a) := by
  unfold impl_isGf.f; rw [impl_within_eq]; rfl

theorem rd_nat (l : List Int) (i : Nat) (h : i < l.length) : rd l (i : Int) = l[i] := by
  unfold rd
  simp [List.getD_eq_getElem?_getD, List.getElem?_eq_getElem h]
theorem wrap_succ (i : Nat) (h : i < 9223372036854775807) : wrap64 ((i : Int) + 1) = ((i + 1 : Nat) : Int) := by rw [wrap_id (by omega) (by omega)]; omega

theorem and_255 (x : Int) : 0 ≤ Go.bits .and .u64 x 255 ∧ Go.bits .and .u64 x 255 ≤ 255 := by
  have h : Go.bits .and .u64 x 255 = IntKind.u64.wrap ((BitVec.ofInt 64 x &&& BitVec.ofInt 64 255).toNat : Int) := rfl
  rw [h, BitVec.toNat_and]
  have h2 : (BitVec.ofInt 64 255).toNat = 255 := by decide
  rw [h2]
  have h3 : (BitVec.ofInt 64 x).toNat &&& 255 ≤ 255 := Nat.and_le_right
  rw [IntKind.wrap_u64]
  omega
theorem wrap_in {n : Int} (h0 : -1000000000000000 ≤ n) (h1 : n ≤ 1000000000000000) : wrap64 n = n := wrap_id (by omega) (by omega)
theorem tmod_in (x n : Int) (hx : 0 ≤ x) (hn : 0 < n) : 0 ≤ Int.tmod x n ∧ Int.tmod x n < n ∧ Int.tmod x n ≤ x := by
  obtain ⟨a, rfl⟩ := nat_of hx
  obtain ⟨b, rfl⟩ := nat_of (a := n) (by omega)
  have e : Int.tmod (a : Int) (b : Int) = ((a % b : Nat) : Int) := rfl
  rw [e]
  have := Nat.mod_lt a (show b > 0 by omega)
  have := Nat.mod_le a b
  omega
/-- The bytes that are drawn from. -/
def BY (s : List Int) : Prop := ∀ x ∈ s, 0 ≤ x ∧ x ≤ 255
theorem wf_BY {s : List Int} (h : ∀ x ∈ s, (Lit.int .u8 x).wf = true) : BY s := fun x hx => by
  have := h x hx
  simp only [Lit.wf, IntKind.min, IntKind.max, IntKind.signed, IntKind.bits, Bool.and_eq_true, decide_eq_true_eq] at this
  simp at this
  omega
theorem BY.rd {s : List Int} (h : BY s) (i : Int) : 0 ≤ rd s i ∧ rd s i ≤ 255 := by
  unfold Go.Proofs.YtncgojfhaagkkaaW.PrintWords.rd
  rw [List.getD_eq_getElem?_getD]
  cases e : s[i.toNat]? with
  | none => exact ⟨Int.le_refl _, (by decide : (0 : Int) ≤ 255)⟩
  | some v => exact h v (List.mem_of_getElem? e)

theorem spec_l1Cur_next_ex {s : List Int} (hs : BY s) {a : Int} (d : Int) (ha : 0 ≤ a) (hb : a ≤ 1000000000000) : ∃ v a' d', spec_l1Cur_next.f s a d = some (v, a', d') ∧ 0 ≤ v ∧ v ≤ 255 ∧ 0 ≤ a' ∧ a' ≤ a + 1 := by
  have ew : wrap64 (a + 1) = a + 1 := wrap_in (by omega) (by omega)
  unfold spec_l1Cur_next.f
  rw [ew]
  have hr := hs.rd a
  by_cases h1 : a < (s.length : Int)
  · rw [if_pos h1, if_pos ha]
    by_cases h2 : a + 1 ≤ (s.length : Int)
    · rw [if_pos h2]
      exact ⟨_, _, _, rfl, by rw [wrap_in (by omega) (by omega)]; omega, by rw [wrap_in (by omega) (by omega)]; omega, by omega, by omega⟩
    · omega
  · rw [if_neg h1]
    by_cases h2 : a + 1 ≤ (s.length : Int)
    · omega
    · rw [if_neg h2]
      generalize IntKind.u64.wrap ((IntKind.u64.wrap ((IntKind.u64.wrap (d * 6364136223846793005)))) + 1442695040888963407) = z
      have hz := and_255 (z / 1099511627776)
      exact ⟨_, _, _, rfl, by rw [wrap_in (by omega) (by omega)]; omega, by rw [wrap_in (by omega) (by omega)]; omega, by omega, by omega⟩

theorem spec_l1Cur_pick_ex {s : List Int} (hs : BY s) {a : Int} (d : Int) (n : Int) (ha : 0 ≤ a) (hb : a ≤ 900000000000) : ∃ v a' d', spec_l1Cur_pick.f s a d n = some (v, a', d') ∧ 0 ≤ v ∧ (v < n ∨ v = 0) ∧ v ≤ 65535 ∧ 0 ≤ a' ∧ a' ≤ a + 2 := by
  unfold spec_l1Cur_pick.f
  by_cases h1 : n ≤ 1
  · rw [if_pos h1]; exact ⟨_, _, _, rfl, by omega, by omega, by omega, by omega, by omega⟩
  · rw [if_neg h1]
    obtain ⟨v, a1, d1, e1, h2, h3, h4, h5⟩ := spec_l1Cur_next_ex hs d ha (by omega)
    rw [e1, Option.bind_some]
    by_cases h6 : n > 200
    · obtain ⟨v2, a2, d2, e2, h7, h8, h9, h10⟩ := spec_l1Cur_next_ex hs d1 h4 (by omega)
      have ew : wrap64 (wrap64 (v * 256) + v2) = v * 256 + v2 := by rw [wrap_in (n := v * 256) (by omega) (by omega), wrap_in (by omega) (by omega)]
      have ht := tmod_in (v * 256 + v2) n (by omega) (by omega)
      simp only [if_pos h6, e2, Option.bind_some, ew, if_neg (show ¬ n = 0 by omega)]
      exact ⟨_, _, _, rfl, by omega, by omega, by omega, by omega, by omega⟩
    · have ht := tmod_in v n (by omega) (by omega)
      simp only [if_neg h6, if_neg (show ¬ n = 0 by omega)]
      exact ⟨_, _, _, rfl, by omega, by omega, by omega, by omega, by omega⟩

theorem spec_l1Cur_among_ex {s : List Int} (hs : BY s) {a : Int} (d : Int) (l : List Int) (ha : 0 ≤ a) (hb : a ≤ 900000000000) (hl : 0 < l.length) : ∃ v a' d', spec_l1Cur_among.f s a d l = some (v, a', d') ∧ v ∈ l ∧ 0 ≤ a' ∧ a' ≤ a + 2 := by
  obtain ⟨v, a1, d1, e1, h2, h3, h4, h5, h6⟩ := spec_l1Cur_pick_ex hs d (l.length : Int) ha hb
  have hv : v < (l.length : Int) := by omega
  obtain ⟨i, rfl⟩ := nat_of h2
  have hi : i < l.length := by omega
  unfold spec_l1Cur_among.f
  rw [e1, Option.bind_some, if_pos h2, if_pos hv]
  exact ⟨_, _, _, rfl, by rw [rd_nat l i hi]; exact List.getElem_mem hi, h5, h6⟩

theorem spec_l1Cur_one_ex {s : List Int} (hs : BY s) {a : Int} (d : Int) (n : Int) (ha : 0 ≤ a) (hb : a ≤ 900000000000) : ∃ v a' d', spec_l1Cur_one.f s a d n = some (v, a', d') ∧ 0 ≤ a' ∧ a' ≤ a + 2 := by
  obtain ⟨v, a1, d1, e1, h2, h3, h4, h5, h6⟩ := spec_l1Cur_pick_ex hs d n ha hb
  unfold spec_l1Cur_one.f
  rw [e1, Option.bind_some]
  exact ⟨_, _, _, rfl, h5, h6⟩

theorem spec_l1Cur_gf_ex {s : List Int} (hs : BY s) {a : Int} (d : Int) (ha : 0 ≤ a) (hb : a ≤ 800000000000) : ∃ v a' d', spec_l1Cur_gf.f s a d = some (v, a', d') ∧ -1 ≤ v ∧ v ≤ 256 ∧ 0 ≤ a' ∧ a' ≤ a + 4 := by
  obtain ⟨v, a1, d1, e1, h1, h2⟩ := spec_l1Cur_one_ex hs d 30 ha (by omega)
  unfold spec_l1Cur_gf.f
  rw [e1, Option.bind_some]
  by_cases h : v = true
  · obtain ⟨x, a2, d2, e2, h3, h4, h5⟩ := spec_l1Cur_among_ex hs d1 ([(-1), 256] : List Int) h1 (by omega) (by decide)
    simp only [h, if_true, e2, Option.bind_some]
    simp only [List.mem_cons, List.not_mem_nil, or_false] at h3
    exact ⟨_, _, _, rfl, by omega, by omega, by omega, by omega⟩
  · obtain ⟨x, a2, d2, e2, h3, h4, _, h5, h6⟩ := spec_l1Cur_pick_ex hs d1 256 h1 (by omega)
    simp only [h, Bool.false_eq_true, if_false, e2, Option.bind_some]
    exact ⟨_, _, _, rfl, by omega, by omega, by omega, by omega⟩

theorem spec_DrawAddGf_ex {s : List Int} (hs : BY s) : ∃ a b, spec_DrawAddGf.f s = some (a, b) := by
  obtain ⟨v, a1, d1, e1, _, _, h1, h2⟩ := spec_l1Cur_gf_ex hs (a := 0) 0 (by omega) (by omega)
  obtain ⟨v2, a2, d2, e2, _, _, h3, h4⟩ := spec_l1Cur_gf_ex hs d1 h1 (by omega)
  unfold spec_DrawAddGf.f
  simp only [e1, e2, Option.bind_some]
  exact ⟨_, _, rfl⟩

theorem spec_DrawMulGf_ex {s : List Int} (hs : BY s) : ∃ a b, spec_DrawMulGf.f s = some (a, b) := by
  obtain ⟨a, b, e⟩ := spec_DrawAddGf_ex hs
  unfold spec_DrawMulGf.f
  rw [e]
  exact ⟨a, b, rfl⟩

theorem impl_mul_l0 : ∀ (n a b o : Nat), a < 256 → o < 256 → b < 2 ^ n → b < 2 ^ 63 → Ev (fun k => impl_mul.l0 k (a : Int) (b : Int) (o : Int)) ((Gf.gmA n a b o : Nat) : Int) := by
  have stop : ∀ a o : Nat, Ev (fun k => impl_mul.l0 k (a : Int) ((0 : Nat) : Int) (o : Int)) ((o : Nat) : Int) := fun a o =>
    Ev.step (f := fun _ => some ((o : Nat) : Int)) (fun k => by simp only [impl_mul.l0]; rw [if_neg (by omega)]) (Ev.now _)
  intro n
  induction n with
  | zero =>
    intro a b o ha ho hb _
    obtain rfl : b = 0 := by simpa using hb
    exact stop a o
  | succ n ih =>
    intro a b o ha ho hb hb63
    by_cases h0 : b = 0
    · subst h0
      rw [Gf.gmA_zero]
      exact stop a o
    · have e1 : wrap64 ((a : Int) * 2) = ((a * 2 : Nat) : Int) := by rw [wrap_id (by omega) (by omega)]; omega
      have e2 : Go.bits .xor .i64 ((a * 2 : Nat) : Int) 285 = (((a * 2) ^^^ 285 : Nat) : Int) := xor_nat (a := a * 2) (b := 285) (by omega) (by decide)
      have e3 : Go.bits .xor .i64 (o : Int) (a : Int) = ((o ^^^ a : Nat) : Int) := xor_nat (by omega) (by omega)
      have e4 := and_one (a := b) hb63
      refine Ev.step (f := fun k => impl_mul.l0 k ((Gf.xt a : Nat) : Int) ((b / 2 : Nat) : Int) (((if b % 2 = 1 then o ^^^ a else o) : Nat) : Int)) (fun k => ?_) (ih _ _ _ (Gf.xt_lt a ha) ?_ (by rw [Nat.pow_succ] at hb; omega) (by omega))
      · simp only [impl_mul.l0, e1, e2, e3, e4, half_nat, Gf.xt]
        rw [if_pos (show (b : Int) > 0 by omega)]
        by_cases h1 : b % 2 = 1 <;> by_cases h2 : 255 < a * 2
        · rw [if_pos (show ((b % 2 : Nat) : Int) = 1 by omega), if_pos h1, if_pos (by omega), if_pos h2]
        · rw [if_pos (show ((b % 2 : Nat) : Int) = 1 by omega), if_pos h1, if_neg (by omega), if_neg h2]
        · rw [if_neg (show ¬ ((b % 2 : Nat) : Int) = 1 by omega), if_neg h1, if_pos (by omega), if_pos h2]
        · rw [if_neg (show ¬ ((b % 2 : Nat) : Int) = 1 by omega), if_neg h1, if_neg (by omega), if_neg h2]
      · split
        · exact Gf.xor_byte ho ha
        · exact ho
theorem impl_mul_ev (a b : Nat) (ha : a < 256) (hb : b < 256) : Ev (fun k => impl_mul.f k (a : Int) (b : Int)) ((Gf.gm a b : Nat) : Int) :=
  impl_mul_l0 8 a b 0 ha (by decide) hb (by omega)

/-- What MulGf answers. -/
def mulGf (a b : Int) : Int × Bool := if isB a && isB b then (((Gf.gm a.toNat b.toNat : Nat) : Int), true) else (0, false)

theorem impl_MulGf_ev (a b : Int) : Ev (fun k => impl_MulGf.f k a b) (mulGf a b) := by
  unfold impl_MulGf.f mulGf
  simp only [impl_isGf_eq, Option.bind_some]
  cases ha : isB a
  · exact Ev.now _
  · cases hb : isB b
    · exact Ev.now _
    · obtain ⟨m, rfl, hm⟩ := isB_nat ha
      obtain ⟨n, rfl, hn⟩ := isB_nat hb
      exact Ev.bind (f := fun _ t => some (t, true)) (impl_mul_ev m n hm hn) (Ev.now _)

theorem spec_l1In_eq (a b c : Int) : spec_l1In.f a b c = some (decide (b ≤ a ∧ a ≤ c)) := by
  unfold spec_l1In.f
  by_cases h : a ≥ b
  · rw [if_pos h]; congr 1; simp [show b ≤ a from h]
  · rw [if_neg h]; congr 1; simp; omega

theorem spec_l1Gf_eq (a : Int) : spec_l1Gf.f a = some (isB a) := by
  unfold spec_l1Gf.f; rw [spec_l1In_eq]; rfl

theorem spec_l1Mul_l0 : ∀ (n a b o : Nat), a < 256 → o < 256 → b < 2 ^ n → b < 2 ^ 63 → Ev (fun k => spec_l1Mul.l0 k (a : Int) (b : Int) (o : Int)) ((Gf.gmA n a b o : Nat) : Int) := by
  have stop : ∀ a o : Nat, Ev (fun k => spec_l1Mul.l0 k (a : Int) ((0 : Nat) : Int) (o : Int)) ((o : Nat) : Int) := fun a o =>
    Ev.step (f := fun _ => some ((o : Nat) : Int)) (fun k => by simp only [spec_l1Mul.l0]; rw [if_neg (by omega)]) (Ev.now _)
  intro n
  induction n with
  | zero =>
    intro a b o ha ho hb _
    obtain rfl : b = 0 := by simpa using hb
    exact stop a o
  | succ n ih =>
    intro a b o ha ho hb hb63
    by_cases h0 : b = 0
    · subst h0
      rw [Gf.gmA_zero]
      exact stop a o
    · have e1 : wrap64 ((a : Int) * 2) = ((a * 2 : Nat) : Int) := by rw [wrap_id (by omega) (by omega)]; omega
      have e2 : Go.bits .xor .i64 ((a * 2 : Nat) : Int) 285 = (((a * 2) ^^^ 285 : Nat) : Int) := xor_nat (a := a * 2) (b := 285) (by omega) (by decide)
      have e3 : Go.bits .xor .i64 (o : Int) (a : Int) = ((o ^^^ a : Nat) : Int) := xor_nat (by omega) (by omega)
      have e4 := and_one (a := b) hb63
      refine Ev.step (f := fun k => spec_l1Mul.l0 k ((Gf.xt a : Nat) : Int) ((b / 2 : Nat) : Int) (((if b % 2 = 1 then o ^^^ a else o) : Nat) : Int)) (fun k => ?_) (ih _ _ _ (Gf.xt_lt a ha) ?_ (by rw [Nat.pow_succ] at hb; omega) (by omega))
      · simp only [spec_l1Mul.l0, e1, e2, e3, e4, half_nat, Gf.xt]
        rw [if_pos (show (b : Int) > 0 by omega)]
        by_cases h1 : b % 2 = 1 <;> by_cases h2 : 255 < a * 2
        · rw [if_pos (show ((b % 2 : Nat) : Int) = 1 by omega), if_pos h1, if_pos (by omega), if_pos h2]
        · rw [if_pos (show ((b % 2 : Nat) : Int) = 1 by omega), if_pos h1, if_neg (by omega), if_neg h2]
        · rw [if_neg (show ¬ ((b % 2 : Nat) : Int) = 1 by omega), if_neg h1, if_pos (by omega), if_pos h2]
        · rw [if_neg (show ¬ ((b % 2 : Nat) : Int) = 1 by omega), if_neg h1, if_neg (by omega), if_neg h2]
      · split
        · exact Gf.xor_byte ho ha
        · exact ho
theorem spec_l1Mul_ev (a b : Nat) (ha : a < 256) (hb : b < 256) : Ev (fun k => spec_l1Mul.f k (a : Int) (b : Int)) ((Gf.gm a b : Nat) : Int) :=
  spec_l1Mul_l0 8 a b 0 ha (by decide) hb (by omega)

theorem spec_MulGf_ev (a b : Int) : Ev (fun k => spec_MulGf.f k a b) (mulGf a b) := by
  unfold spec_MulGf.f mulGf
  simp only [spec_l1Gf_eq, Option.bind_some]
  cases ha : isB a
  · exact Ev.now _
  · cases hb : isB b
    · exact Ev.now _
    · obtain ⟨m, rfl, hm⟩ := isB_nat ha
      obtain ⟨n, rfl, hn⟩ := isB_nat hb
      exact Ev.bind (f := fun _ t => some (t, true)) (spec_l1Mul_ev m n hm hn) (Ev.now _)

theorem impl_AddGf_eq (a b : Int) : impl_AddGf.f a b = some (if isB a && isB b then (Go.bits .xor .i64 a b, true) else (0, false)) := by
  unfold impl_AddGf.f
  rw [impl_isGf_eq, impl_isGf_eq]
  cases isB a <;> cases isB b <;> rfl

theorem spec_AddGf_eq (a b : Int) : spec_AddGf.f a b = some (if isB a && isB b then (Go.bits .xor .i64 a b, true) else (0, false)) := by
  unfold spec_AddGf.f
  rw [spec_l1Gf_eq, spec_l1Gf_eq]
  cases isB a <;> cases isB b <;> rfl

theorem impl_pow_l0 : ∀ (f a n o : Nat), a < 256 → o < 256 → n < 2 ^ f → n < 2 ^ 63 → Ev (fun k => impl_pow.l0 k (a : Int) (n : Int) (o : Int)) ((Gf.pwA f a n o : Nat) : Int) := by
  have stop : ∀ a o : Nat, Ev (fun k => impl_pow.l0 k (a : Int) ((0 : Nat) : Int) (o : Int)) ((o : Nat) : Int) := fun a o =>
    Ev.step (f := fun _ => some ((o : Nat) : Int)) (fun k => by simp only [impl_pow.l0]; rw [if_neg (by omega)]) (Ev.now _)
  have z : ∀ f a o, Gf.pwA f a 0 o = o := by
    intro f
    induction f with
    | zero => intro a o; rfl
    | succ f ih => intro a o; exact ih _ _
  intro f
  induction f with
  | zero =>
    intro a n o ha ho hn _
    obtain rfl : n = 0 := by simpa using hn
    exact stop a o
  | succ f ih =>
    intro a n o ha ho hn hn63
    by_cases h0 : n = 0
    · subst h0
      rw [z]
      exact stop a o
    · have e4 := and_one (a := n) hn63
      have hsq := Gf.gm_lt a ha
      by_cases h1 : n % 2 = 1
      · refine Ev.step (f := fun k => (impl_mul.f k (o : Int) (a : Int)).bind fun t => (impl_mul.f k (a : Int) (a : Int)).bind fun u => impl_pow.l0 k u ((n / 2 : Nat) : Int) t) (fun k => ?_) ?_
        · simp only [impl_pow.l0, e4, half_nat]
          rw [if_pos (show (n : Int) > 0 by omega), if_pos (show ((n % 2 : Nat) : Int) = 1 by omega)]
        · have := ih (Gf.gm a a) (n / 2) (Gf.gm o a) hsq (Gf.gm_lt a ho) (by rw [Nat.pow_succ] at hn; omega) (by omega)
          show Ev _ ((Gf.pwA f (Gf.gm a a) (n / 2) (if n % 2 = 1 then Gf.gm o a else o) : Nat) : Int)
          rw [if_pos h1]
          exact Ev.bind (f := fun k t => (impl_mul.f k (a : Int) (a : Int)).bind fun u => impl_pow.l0 k u ((n / 2 : Nat) : Int) t) (impl_mul_ev o a ho ha) (Ev.bind (f := fun k u => impl_pow.l0 k u ((n / 2 : Nat) : Int) ((Gf.gm o a : Nat) : Int)) (impl_mul_ev a a ha ha) this)
      · refine Ev.step (f := fun k => (impl_mul.f k (a : Int) (a : Int)).bind fun u => impl_pow.l0 k u ((n / 2 : Nat) : Int) (o : Int)) (fun k => ?_) ?_
        · simp only [impl_pow.l0, e4, half_nat]
          rw [if_pos (show (n : Int) > 0 by omega), if_neg (show ¬ ((n % 2 : Nat) : Int) = 1 by omega)]
        · have := ih (Gf.gm a a) (n / 2) o hsq ho (by rw [Nat.pow_succ] at hn; omega) (by omega)
          show Ev _ ((Gf.pwA f (Gf.gm a a) (n / 2) (if n % 2 = 1 then Gf.gm o a else o) : Nat) : Int)
          rw [if_neg h1]
          exact Ev.bind (f := fun k u => impl_pow.l0 k u ((n / 2 : Nat) : Int) (o : Int)) (impl_mul_ev a a ha ha) this
theorem impl_pow_ev (a n : Nat) (ha : a < 256) (hn : n < 2 ^ 62) : Ev (fun k => impl_pow.f k (a : Int) (n : Int)) ((Gf.pw a n : Nat) : Int) := by
  have := impl_pow_l0 62 a n 1 ha (by decide) hn (by omega)
  rw [Gf.pwA_eq 62 a n 1 ha (by decide) hn, Gf.one_gm _ (Gf.pw_lt n)] at this
  exact this

theorem impl_inverse_ev (b : Nat) (hb : b < 256) : Ev (fun k => impl_inverse.f k (b : Int)) ((Gf.gi b : Nat) : Int) := by
  unfold impl_inverse.f
  exact Ev.bind (f := fun _ u => some u) (impl_pow_ev b 254 hb (by decide)) (Ev.now _)

/-- What DivGf answers. -/
def divV (a b : Int) : Int × Bool := if isB a && isB b && !(b == 0) then (((Gf.gm a.toNat (Gf.gi b.toNat) : Nat) : Int), true) else (0, false)

theorem impl_DivGf_ev (a b : Int) : Ev (fun k => impl_DivGf.f k a b) (divV a b) := by
  have no : Ev (fun k => impl_DivGf.j0 k a b true) (0, false) := Ev.step (f := fun _ => some (0, false)) (fun k => by simp only [impl_DivGf.j0]; rfl) (Ev.now _)
  unfold impl_DivGf.f divV
  simp only [impl_isGf_eq, Option.bind_some]
  cases ha : isB a
  · exact no
  · cases hb : isB b
    · exact no
    · by_cases h : b = 0
      · subst h; exact no
      · obtain ⟨x, rfl, hx⟩ := isB_nat ha
        obtain ⟨y, rfl, hy⟩ := isB_nat hb
        have h' : ((y : Int) == 0) = false := beq_eq_false_iff_ne.2 h
        simp only [if_true, h', Bool.not_false, Bool.and_self]
        refine Ev.step (f := fun k => (impl_inverse.f k (y : Int)).bind fun t => (impl_mul.f k (x : Int) t).bind fun u => some (u, true)) (fun k => by simp only [impl_DivGf.j0]; rfl) ?_
        refine Ev.bind (f := fun k t => (impl_mul.f k (x : Int) t).bind fun u => some (u, true)) (impl_inverse_ev y hy) ?_
        exact Ev.bind (f := fun _ u => some (u, true)) (impl_mul_ev x (Gf.gi y) hx (Gf.gi_lt y)) (Ev.now _)

theorem spec_l1Pow_l0 : ∀ (f a n o : Nat), a < 256 → o < 256 → n < 2 ^ f → n < 2 ^ 63 → Ev (fun k => spec_l1Pow.l0 k (a : Int) (n : Int) (o : Int)) ((Gf.pwA f a n o : Nat) : Int) := by
  have stop : ∀ a o : Nat, Ev (fun k => spec_l1Pow.l0 k (a : Int) ((0 : Nat) : Int) (o : Int)) ((o : Nat) : Int) := fun a o =>
    Ev.step (f := fun _ => some ((o : Nat) : Int)) (fun k => by simp only [spec_l1Pow.l0]; rw [if_neg (by omega)]) (Ev.now _)
  have z : ∀ f a o, Gf.pwA f a 0 o = o := by
    intro f
    induction f with
    | zero => intro a o; rfl
    | succ f ih => intro a o; exact ih _ _
  intro f
  induction f with
  | zero =>
    intro a n o ha ho hn _
    obtain rfl : n = 0 := by simpa using hn
    exact stop a o
  | succ f ih =>
    intro a n o ha ho hn hn63
    by_cases h0 : n = 0
    · subst h0
      rw [z]
      exact stop a o
    · have e4 := and_one (a := n) hn63
      have hsq := Gf.gm_lt a ha
      by_cases h1 : n % 2 = 1
      · refine Ev.step (f := fun k => (spec_l1Mul.f k (o : Int) (a : Int)).bind fun t => (spec_l1Mul.f k (a : Int) (a : Int)).bind fun u => spec_l1Pow.l0 k u ((n / 2 : Nat) : Int) t) (fun k => ?_) ?_
        · simp only [spec_l1Pow.l0, e4, half_nat]
          rw [if_pos (show (n : Int) > 0 by omega), if_pos (show ((n % 2 : Nat) : Int) = 1 by omega)]
        · have := ih (Gf.gm a a) (n / 2) (Gf.gm o a) hsq (Gf.gm_lt a ho) (by rw [Nat.pow_succ] at hn; omega) (by omega)
          show Ev _ ((Gf.pwA f (Gf.gm a a) (n / 2) (if n % 2 = 1 then Gf.gm o a else o) : Nat) : Int)
          rw [if_pos h1]
          exact Ev.bind (f := fun k t => (spec_l1Mul.f k (a : Int) (a : Int)).bind fun u => spec_l1Pow.l0 k u ((n / 2 : Nat) : Int) t) (spec_l1Mul_ev o a ho ha) (Ev.bind (f := fun k u => spec_l1Pow.l0 k u ((n / 2 : Nat) : Int) ((Gf.gm o a : Nat) : Int)) (spec_l1Mul_ev a a ha ha) this)
      · refine Ev.step (f := fun k => (spec_l1Mul.f k (a : Int) (a : Int)).bind fun u => spec_l1Pow.l0 k u ((n / 2 : Nat) : Int) (o : Int)) (fun k => ?_) ?_
        · simp only [spec_l1Pow.l0, e4, half_nat]
          rw [if_pos (show (n : Int) > 0 by omega), if_neg (show ¬ ((n % 2 : Nat) : Int) = 1 by omega)]
        · have := ih (Gf.gm a a) (n / 2) o hsq ho (by rw [Nat.pow_succ] at hn; omega) (by omega)
          show Ev _ ((Gf.pwA f (Gf.gm a a) (n / 2) (if n % 2 = 1 then Gf.gm o a else o) : Nat) : Int)
          rw [if_neg h1]
          exact Ev.bind (f := fun k u => spec_l1Pow.l0 k u ((n / 2 : Nat) : Int) (o : Int)) (spec_l1Mul_ev a a ha ha) this
theorem spec_l1Pow_ev (a n : Nat) (ha : a < 256) (hn : n < 2 ^ 62) : Ev (fun k => spec_l1Pow.f k (a : Int) (n : Int)) ((Gf.pw a n : Nat) : Int) := by
  have := spec_l1Pow_l0 62 a n 1 ha (by decide) hn (by omega)
  rw [Gf.pwA_eq 62 a n 1 ha (by decide) hn, Gf.one_gm _ (Gf.pw_lt n)] at this
  exact this

theorem spec_l1Div_ev (a b : Nat) (ha : a < 256) (hb : b < 256) : Ev (fun k => spec_l1Div.f k (a : Int) (b : Int)) ((Gf.gm a (Gf.gi b) : Nat) : Int) := by
  unfold spec_l1Div.f
  refine Ev.bind (f := fun k t => (spec_l1Mul.f k (a : Int) t).bind fun u => some u) (spec_l1Pow_ev b 254 hb (by decide)) ?_
  exact Ev.bind (f := fun _ u => some u) (spec_l1Mul_ev a (Gf.gi b) ha (Gf.gi_lt b)) (Ev.now _)

theorem spec_DivGf_ev (a b : Int) : Ev (fun k => spec_DivGf.f k a b) (divV a b) := by
  unfold spec_DivGf.f divV
  simp only [spec_l1Gf_eq, Option.bind_some]
  cases ha : isB a
  · exact Ev.now _
  · cases hb : isB b
    · exact Ev.now _
    · by_cases h : b = 0
      · subst h; exact Ev.now _
      · obtain ⟨x, rfl, hx⟩ := isB_nat ha
        obtain ⟨y, rfl, hy⟩ := isB_nat hb
        have h' : ((y : Int) == 0) = false := beq_eq_false_iff_ne.2 h
        simp only [if_true, if_neg h, h', Bool.not_false, Bool.and_self]
        exact Ev.bind (f := fun _ t => some (t, true)) (spec_l1Div_ev x y hx hy) (Ev.now _)

theorem laws_numberOf_ex {s : List Int} (hs : BY s) (hl : s.length ≤ 1048576) : ∃ n : Nat, Ev (fun k => laws_numberOf.f k s) (n : Int) ∧ n < 1000003 := by
  have h : ∀ d i m : Nat, i + d = s.length → m < 1000003 → ∃ n : Nat, Ev (fun k => laws_numberOf.l0 k (m : Int) s (s.length : Int) (i : Int)) (n : Int) ∧ n < 1000003 := by
    intro d
    induction d with
    | zero =>
      intro i m hi hm
      exact ⟨m, Ev.step (f := fun _ => some (m : Int)) (fun k => by simp only [laws_numberOf.l0]; rw [if_neg (by omega)]) (Ev.now _), hm⟩
    | succ d ih =>
      intro i m hi hm
      have hr := hs.rd (i : Int)
      have e1 : wrap64 (wrap64 (31 * (m : Int)) + wrap64 (rd s (i : Int))) = 31 * (m : Int) + rd s (i : Int) := by
        rw [wrap_in (n := 31 * (m : Int)) (by omega) (by omega), wrap_in (n := rd s (i : Int)) (by omega) (by omega), wrap_in (by omega) (by omega)]
      have ht := tmod_in (31 * (m : Int) + rd s (i : Int)) 1000003 (by omega) (by omega)
      obtain ⟨q, hq⟩ := nat_of ht.1
      obtain ⟨n, h1, h2⟩ := ih (i + 1) q (by omega) (by omega)
      refine ⟨n, Ev.step (f := fun k => laws_numberOf.l0 k (q : Int) s (s.length : Int) ((i + 1 : Nat) : Int)) (fun k => ?_) h1, h2⟩
      have ew : wrap64 ((i : Int) + 1) = ((i + 1 : Nat) : Int) := by rw [wrap_in (by omega) (by omega)]; omega
      simp only [laws_numberOf.l0, e1, hq, ew]
      rw [if_pos (by omega), if_pos (by omega), if_pos (by omega)]
  exact h s.length 0 0 (by omega) (by omega)

/-- The powers of 2 below n. -/
def expN (n : Nat) : List Int := (List.range n).map fun j => ((Gf.pw 2 j : Nat) : Int)
theorem expN_length (n : Nat) : (expN n).length = n := by simp [expN]
theorem expN_succ (n : Nat) : expN (n + 1) = expN n ++ [((Gf.pw 2 n : Nat) : Int)] := by simp [expN, List.range_succ]
theorem expN_get (n i : Nat) (h : i < (expN n).length) : (expN n)[i] = ((Gf.pw 2 i : Nat) : Int) := by simp [expN]

theorem impl_ExpTable_l0 : ∀ d n : Nat, n + d = 255 → Ev (fun k => impl_ExpTable.l0 k (expN n) (n : Int)) (expN 255) := by
  intro d
  induction d with
  | zero =>
    intro n hn
    obtain rfl : n = 255 := by omega
    exact Ev.step (f := fun _ => some (expN 255)) (fun k => by simp only [impl_ExpTable.l0]; rw [if_neg (by omega)]) (Ev.now _)
  | succ d ih =>
    intro n hn
    refine Ev.step (f := fun k => (impl_pow.f k 2 (n : Int)).bind fun t => if (expN n).length < 17592186044416 then impl_ExpTable.l0 k (expN n ++ [t]) ((n + 1 : Nat) : Int) else none) (fun k => ?_) ?_
    · simp only [impl_ExpTable.l0, wrap_succ n (by omega)]
      rw [if_pos (by omega)]
    · refine Ev.bind (f := fun k t => if (expN n).length < 17592186044416 then impl_ExpTable.l0 k (expN n ++ [t]) ((n + 1 : Nat) : Int) else none) (impl_pow_ev 2 n (by decide) (by omega)) ?_
      have hl : (expN n).length < 17592186044416 := by rw [expN_length]; omega
      simp only [if_pos hl]
      rw [← expN_succ]
      exact ih (n + 1) (by omega)
theorem impl_ExpTable_ev : Ev (fun k => impl_ExpTable.f k) (expN 255) := impl_ExpTable_l0 255 0 (by omega)

/-- Each number of e is told its place, from place i on, so many places. -/
def logL (e : Nat → Nat) : Nat → Nat → List Int → List Int
  | 0, _, x => x
  | d + 1, i, x => logL e d (i + 1) (x.set (e i) (i : Int))
theorem logL_length (e : Nat → Nat) : ∀ d i x, (logL e d i x).length = x.length
  | 0, _, _ => rfl
  | d + 1, i, x => by unfold logL; rw [logL_length e d]; exact List.length_set ..

theorem impl_LogTable_l0 (N : Int) (hN : N = 255) : ∀ (d i : Nat) (x : List Int), i + d = 255 → x.length = 256 → Ev (fun k => impl_LogTable.l0 k x (expN 255) N (i : Int)) (logL (Gf.pw 2) d i x) := by
  intro d
  induction d with
  | zero =>
    intro i x hi hx
    obtain rfl : i = 255 := by omega
    exact Ev.step (f := fun _ => some x) (fun k => by simp only [impl_LogTable.l0]; rw [if_neg (by omega)]) (Ev.now _)
  | succ d ih =>
    intro i x hi hx
    have hr : rd (expN 255) (i : Int) = ((Gf.pw 2 i : Nat) : Int) := by rw [rd_nat _ _ (by rw [expN_length]; omega), expN_get]
    have hp := Gf.pw_lt (a := 2) i
    refine Ev.step (f := fun k => impl_LogTable.l0 k (x.set (Gf.pw 2 i) (i : Int)) (expN 255) N ((i + 1 : Nat) : Int)) (fun k => ?_) (ih (i + 1) _ (by omega) (by rw [List.length_set]; exact hx))
    simp only [impl_LogTable.l0, hr, wrap_succ i (by omega), Int.toNat_natCast, expN_length]
    rw [if_pos (by omega), if_pos (by omega), if_pos (by omega), if_pos (by omega), if_pos (by omega)]
theorem impl_LogTable_ev : Ev (fun k => impl_LogTable.f k) (logL (Gf.pw 2) 255 0 (List.replicate 256 0)) := by
  unfold impl_LogTable.f
  have z : 256 ≤ 35184372088832 := by decide
  simp only [if_pos z]
  refine Ev.bind (f := fun k (t : List Int) => impl_LogTable.l0 k (List.replicate 256 0) t (t.length : Int) 0) impl_ExpTable_ev ?_
  simp only [expN_length]
  exact impl_LogTable_l0 _ rfl 255 0 _ (by omega) List.length_replicate

theorem spec_DrawPowGf_ex {s : List Int} (hs : BY s) : ∃ a b, spec_DrawPowGf.f s = some (a, b) := by
  obtain ⟨v, a1, d1, e1, _, _, h1, h2⟩ := spec_l1Cur_gf_ex hs (a := 0) 0 (by omega) (by omega)
  obtain ⟨n3, a3, d3, e3, _, h5, h6⟩ := spec_l1Cur_among_ex hs d1 ([(-1), 0, 1, 2, 3, 254, 255, 256, 100000, 100001] : List Int) h1 (by omega) (by decide)
  unfold spec_DrawPowGf.f
  simp only [e1, e3, Option.bind_some]
  exact ⟨_, _, rfl⟩

/-- What PowGf answers. -/
def powV (a n : Int) : Int × Bool := if isB a && decide (0 ≤ n ∧ n ≤ 100000) then (((Gf.pw a.toNat n.toNat : Nat) : Int), true) else (0, false)

theorem impl_PowGf_ev (a n : Int) : Ev (fun k => impl_PowGf.f k a n) (powV a n) := by
  unfold impl_PowGf.f powV
  simp only [impl_isGf_eq, impl_within_eq, Option.bind_some]
  cases ha : isB a
  · exact Ev.now _
  · by_cases h : 0 ≤ n ∧ n ≤ 100000
    · obtain ⟨x, rfl, hx⟩ := isB_nat ha
      obtain ⟨m, rfl⟩ := nat_of h.1
      simp only [if_true, decide_eq_true h, Bool.and_self]
      exact Ev.bind (f := fun _ t => some (t, true)) (impl_pow_ev x m hx (by omega)) (Ev.now _)
    · simp only [if_true, decide_eq_false h, Bool.and_false]
      exact Ev.now _

theorem spec_PowGf_ev (a n : Int) : Ev (fun k => spec_PowGf.f k a n) (powV a n) := by
  unfold spec_PowGf.f powV
  simp only [spec_l1Gf_eq, spec_l1In_eq, Option.bind_some]
  cases ha : isB a
  · exact Ev.now _
  · by_cases h : 0 ≤ n ∧ n ≤ 100000
    · obtain ⟨x, rfl, hx⟩ := isB_nat ha
      obtain ⟨m, rfl⟩ := nat_of h.1
      simp only [if_true, decide_eq_true h, Bool.and_self]
      exact Ev.bind (f := fun _ t => some (t, true)) (spec_l1Pow_ev x m hx (by omega)) (Ev.now _)
    · simp only [if_true, decide_eq_false h, Bool.and_false]
      exact Ev.now _

theorem spec_DrawOrderGf_ex {s : List Int} (hs : BY s) : ∃ a, spec_DrawOrderGf.f s = some a := by
  obtain ⟨v, a1, d1, e1, _, _, h1, h2⟩ := spec_l1Cur_gf_ex hs (a := 0) 0 (by omega) (by omega)
  unfold spec_DrawOrderGf.f
  simp only [e1, Option.bind_some]
  exact ⟨_, rfl⟩

/-- The order's loop: from n on, so many rounds at the most. -/
def ordR (a : Nat) : Nat → Nat → Nat
  | 0, n => n
  | f + 1, n => if Gf.pw a n = 1 then n else ordR a f (n + 1)
/-- What OrderGf answers. -/
def orderGf (a : Int) : Int × Bool := if 1 ≤ a ∧ a ≤ 255 then (((ordR a.toNat 254 1 : Nat) : Int), true) else (0, false)

theorem impl_OrderGf_loop (a : Nat) (ha : a < 256) : ∀ (f n : Nat), Gf.pw a (n + f) = 1 → n + f < 1000 → Ev (fun k => impl_OrderGf.l0 k (a : Int) (n : Int) ((Gf.pw a n : Nat) : Int)) (((ordR a f n : Nat) : Int), true) := by
  have stop : ∀ n : Nat, Gf.pw a n = 1 → Ev (fun k => impl_OrderGf.l0 k (a : Int) (n : Int) ((Gf.pw a n : Nat) : Int)) (((n : Nat) : Int), true) := fun n h =>
    Ev.step (f := fun _ => some (((n : Nat) : Int), true)) (fun k => by simp only [impl_OrderGf.l0, h]; rfl) (Ev.now _)
  intro f
  induction f with
  | zero => intro n h _; exact stop n h
  | succ f ih =>
    intro n h hn
    unfold ordR
    by_cases e : Gf.pw a n = 1
    · rw [if_pos e]; exact stop n e
    · rw [if_neg e]
      have hw : wrap64 ((n : Int) + 1) = ((n + 1 : Nat) : Int) := by rw [wrap_id (by omega) (by omega)]; omega
      refine Ev.step (f := fun k => (impl_mul.f k ((Gf.pw a n : Nat) : Int) (a : Int)).bind fun t => impl_OrderGf.l0 k (a : Int) ((n + 1 : Nat) : Int) t) (fun k => ?_) ?_
      · simp only [impl_OrderGf.l0]
        rw [if_neg (by omega), hw]
      · exact Ev.bind (f := fun k t => impl_OrderGf.l0 k (a : Int) ((n + 1 : Nat) : Int) t) (impl_mul_ev _ _ (Gf.pw_lt n) ha) (ih (n + 1) (by rw [show n + 1 + f = n + (f + 1) by omega]; exact h) (by omega))
theorem impl_OrderGf_ev (a : Int) : Ev (fun k => impl_OrderGf.f k a) (orderGf a) := by
  unfold impl_OrderGf.f orderGf
  simp only [impl_isGf_eq, Option.bind_some]
  by_cases h : 1 ≤ a ∧ a ≤ 255
  · obtain ⟨n, rfl⟩ := nat_of (a := a) (by omega)
    rw [if_pos h]
    have hb : isB (n : Int) = true := isB_cast (by omega)
    have h0 : ((n : Int) == 0) = false := by simp; omega
    have := impl_OrderGf_loop n (by omega) 254 1 (Gf.pw_255 (by omega) (by omega)) (by omega)
    rw [Gf.pw_one (by omega)] at this
    simp only [hb, h0, if_true]
    exact Ev.step (f := fun k => impl_OrderGf.l0 k (n : Int) ((1 : Nat) : Int) (n : Int)) (fun k => by simp only [impl_OrderGf.j0]; rfl) this
  · rw [if_neg h]
    have : ∀ k, impl_OrderGf.j0 (k + 1) a true = some (0, false) := fun k => by simp only [impl_OrderGf.j0]; rfl
    cases hb : isB a
    · exact Ev.step (f := fun _ => some (0, false)) this (Ev.now _)
    · have : a = 0 := by simp only [isB, decide_eq_true_eq] at hb; omega
      subst this
      exact Ev.step (f := fun _ => some (0, false)) this (Ev.now _)

theorem spec_OrderGf_loop (a : Nat) (ha : a < 256) : ∀ (f n : Nat), Gf.pw a (n + f) = 1 → n + f < 1000 → Ev (fun k => spec_OrderGf.l0 k (a : Int) (n : Int) ((Gf.pw a n : Nat) : Int)) (((ordR a f n : Nat) : Int), true) := by
  have stop : ∀ n : Nat, Gf.pw a n = 1 → Ev (fun k => spec_OrderGf.l0 k (a : Int) (n : Int) ((Gf.pw a n : Nat) : Int)) (((n : Nat) : Int), true) := fun n h =>
    Ev.step (f := fun _ => some (((n : Nat) : Int), true)) (fun k => by simp only [spec_OrderGf.l0, h]; rfl) (Ev.now _)
  intro f
  induction f with
  | zero => intro n h _; exact stop n h
  | succ f ih =>
    intro n h hn
    unfold ordR
    by_cases e : Gf.pw a n = 1
    · rw [if_pos e]; exact stop n e
    · rw [if_neg e]
      have hw : wrap64 ((n : Int) + 1) = ((n + 1 : Nat) : Int) := by rw [wrap_id (by omega) (by omega)]; omega
      refine Ev.step (f := fun k => (spec_l1Mul.f k ((Gf.pw a n : Nat) : Int) (a : Int)).bind fun t => spec_OrderGf.l0 k (a : Int) ((n + 1 : Nat) : Int) t) (fun k => ?_) ?_
      · simp only [spec_OrderGf.l0]
        rw [if_neg (by omega), hw]
      · exact Ev.bind (f := fun k t => spec_OrderGf.l0 k (a : Int) ((n + 1 : Nat) : Int) t) (spec_l1Mul_ev _ _ (Gf.pw_lt n) ha) (ih (n + 1) (by rw [show n + 1 + f = n + (f + 1) by omega]; exact h) (by omega))
theorem spec_OrderGf_ev (a : Int) : Ev (fun k => spec_OrderGf.f k a) (orderGf a) := by
  unfold spec_OrderGf.f orderGf
  simp only [spec_l1In_eq, Option.bind_some]
  by_cases h : 1 ≤ a ∧ a ≤ 255
  · obtain ⟨n, rfl⟩ := nat_of (a := a) (by omega)
    rw [if_pos h]
    have := spec_OrderGf_loop n (by omega) 254 1 (Gf.pw_255 (by omega) (by omega)) (by omega)
    rw [Gf.pw_one (by omega)] at this
    simpa [h] using this
  · rw [if_neg h]
    simpa [h] using Ev.now (0, false)

/-- What AddGf answers. -/
def addV (a b : Int) : Int × Bool := if isB a && isB b then (Go.bits .xor .i64 a b, true) else (0, false)
theorem mulI_c (a b p : Int) (q : Bool) (h : mulGf a b = (p, q)) (w : World) : Calls Try.prog 16 #[.int .i64 a, .int .i64 b] w fun e w' => e = .returned (.tuple #[.int .i64 p, .bool q]) ∧ Below w.heap.size w w' := by
  obtain ⟨K, hK⟩ := (impl_MulGf_ev a b).rounds
  rw [h] at hK
  exact (impl_MulGf.calls K a b p q w hK).mono fun e w' ⟨he, hd⟩ => ⟨he, hd.below⟩
theorem mulS_c (a b p : Int) (q : Bool) (h : mulGf a b = (p, q)) (w : World) : Calls Try.prog 17 #[.int .i64 a, .int .i64 b] w fun e w' => e = .returned (.tuple #[.int .i64 p, .bool q]) ∧ Below w.heap.size w w' := by
  obtain ⟨K, hK⟩ := (spec_MulGf_ev a b).rounds
  rw [h] at hK
  exact (spec_MulGf.calls K a b p q w hK).mono fun e w' ⟨he, hd⟩ => ⟨he, hd.below⟩
theorem divI_c (a b p : Int) (q : Bool) (h : divV a b = (p, q)) (w : World) : Calls Try.prog 20 #[.int .i64 a, .int .i64 b] w fun e w' => e = .returned (.tuple #[.int .i64 p, .bool q]) ∧ Below w.heap.size w w' := by
  obtain ⟨K, hK⟩ := (impl_DivGf_ev a b).rounds
  rw [h] at hK
  exact (impl_DivGf.calls K a b p q w hK).mono fun e w' ⟨he, hd⟩ => ⟨he, hd.below⟩
theorem divS_c (a b p : Int) (q : Bool) (h : divV a b = (p, q)) (w : World) : Calls Try.prog 21 #[.int .i64 a, .int .i64 b] w fun e w' => e = .returned (.tuple #[.int .i64 p, .bool q]) ∧ Below w.heap.size w w' := by
  obtain ⟨K, hK⟩ := (spec_DivGf_ev a b).rounds
  rw [h] at hK
  exact (spec_DivGf.calls K a b p q w hK).mono fun e w' ⟨he, hd⟩ => ⟨he, hd.below⟩
theorem addI_c (a b p : Int) (q : Bool) (h : addV a b = (p, q)) (w : World) : Calls Try.prog 18 #[.int .i64 a, .int .i64 b] w fun e w' => e = .returned (.tuple #[.int .i64 p, .bool q]) ∧ Below w.heap.size w w' := by
  have hK := impl_AddGf_eq a b
  rw [show (if isB a && isB b then (Go.bits .xor .i64 a b, true) else (0, false)) = (p, q) from h] at hK
  exact (impl_AddGf.calls a b p q w hK).mono fun e w' ⟨he, hd⟩ => ⟨he, hd.below⟩
theorem addS_c (a b p : Int) (q : Bool) (h : addV a b = (p, q)) (w : World) : Calls Try.prog 19 #[.int .i64 a, .int .i64 b] w fun e w' => e = .returned (.tuple #[.int .i64 p, .bool q]) ∧ Below w.heap.size w w' := by
  have hK := spec_AddGf_eq a b
  rw [show (if isB a && isB b then (Go.bits .xor .i64 a b, true) else (0, false)) = (p, q) from h] at hK
  exact (spec_AddGf.calls a b p q w hK).mono fun e w' ⟨he, hd⟩ => ⟨he, hd.below⟩
theorem mulGf_nat {x y : Nat} (hx : x < 256) (hy : y < 256) : mulGf (x : Int) (y : Int) = (((Gf.gm x y : Nat) : Int), true) := by
  unfold mulGf
  rw [isB_cast hx, isB_cast hy]; rfl
theorem addV_nat {x y : Nat} (hx : x < 256) (hy : y < 256) : addV (x : Int) (y : Int) = (((x ^^^ y : Nat) : Int), true) := by
  unfold addV
  rw [isB_cast hx, isB_cast hy, xor_nat (by omega) (by omega)]; rfl

theorem powI_c (a b p : Int) (q : Bool) (h : powV a b = (p, q)) (w : World) : Calls Try.prog 26 #[.int .i64 a, .int .i64 b] w fun e w' => e = .returned (.tuple #[.int .i64 p, .bool q]) ∧ Below w.heap.size w w' := by
  obtain ⟨K, hK⟩ := (impl_PowGf_ev a b).rounds
  rw [h] at hK
  exact (impl_PowGf.calls K a b p q w hK).mono fun e w' ⟨he, hd⟩ => ⟨he, hd.below⟩
theorem powS_c (a b p : Int) (q : Bool) (h : powV a b = (p, q)) (w : World) : Calls Try.prog 27 #[.int .i64 a, .int .i64 b] w fun e w' => e = .returned (.tuple #[.int .i64 p, .bool q]) ∧ Below w.heap.size w w' := by
  obtain ⟨K, hK⟩ := (spec_PowGf_ev a b).rounds
  rw [h] at hK
  exact (spec_PowGf.calls K a b p q w hK).mono fun e w' ⟨he, hd⟩ => ⟨he, hd.below⟩
theorem ordI_c (a p : Int) (q : Bool) (h : orderGf a = (p, q)) (w : World) : Calls Try.prog 29 #[.int .i64 a] w fun e w' => e = .returned (.tuple #[.int .i64 p, .bool q]) ∧ Below w.heap.size w w' := by
  obtain ⟨K, hK⟩ := (impl_OrderGf_ev a).rounds
  rw [h] at hK
  exact (impl_OrderGf.calls K a p q w hK).mono fun e w' ⟨he, hd⟩ => ⟨he, hd.below⟩
theorem ordS_c (a p : Int) (q : Bool) (h : orderGf a = (p, q)) (w : World) : Calls Try.prog 30 #[.int .i64 a] w fun e w' => e = .returned (.tuple #[.int .i64 p, .bool q]) ∧ Below w.heap.size w w' := by
  obtain ⟨K, hK⟩ := (spec_OrderGf_ev a).rounds
  rw [h] at hK
  exact (spec_OrderGf.calls K a p q w hK).mono fun e w' ⟨he, hd⟩ => ⟨he, hd.below⟩

theorem logL_at (e : Nat → Nat) (q j : Nat) : ∀ (d i : Nat) (x : List Int), q < x.length → (∀ t, i ≤ t → t < i + d → t ≠ j → e t ≠ q) → (i ≤ j ∧ j < i + d ∧ e j = q ∨ x.getD q 0 = (j : Int)) → (logL e d i x).getD q 0 = (j : Int)
  | 0, i, x, _, _, h => by
    rcases h with h | h
    · omega
    · exact h
  | d + 1, i, x, hq, hn, h => by
    unfold logL
    refine logL_at e q j d (i + 1) _ (by rw [List.length_set]; exact hq) (fun t h1 h2 h3 => hn t (by omega) (by omega) h3) ?_
    by_cases hi : i = j
    · subst hi
      rcases h with h | h
      · right
        rw [h.2.2, List.getD_eq_getElem?_getD, List.getElem?_set_self hq]; rfl
      · by_cases he : e i = q
        · right
          rw [he, List.getD_eq_getElem?_getD, List.getElem?_set_self hq]; rfl
        · right
          rw [List.getD_eq_getElem?_getD, List.getElem?_set_ne he, ← List.getD_eq_getElem?_getD]; exact h
    · rcases h with h | h
      · left
        exact ⟨by omega, by omega, h.2.2⟩
      · right
        have he := hn i (Nat.le_refl _) (by omega) hi
        rw [List.getD_eq_getElem?_getD, List.getElem?_set_ne he, ← List.getD_eq_getElem?_getD]; exact h
/-- The table of logarithms. -/
def logT : List Int := logL (Gf.pw 2) 255 0 (List.replicate 256 0)
theorem logT_length : logT.length = 256 := by unfold logT; rw [logL_length, List.length_replicate]
theorem logT_at {i : Nat} (hi : i < 255) : logT.getD (Gf.pw 2 i) 0 = (i : Int) :=
  logL_at (Gf.pw 2) (Gf.pw 2 i) i 255 0 _ (by rw [List.length_replicate]; exact Gf.pw_lt _) (fun t _ h2 h3 he => h3 (Gfx.pw2_inj (by omega) hi he)) (.inl ⟨Nat.zero_le _, by omega, rfl⟩)
theorem expN_at {i : Nat} (hi : i < 255) : (expN 255).getD i 0 = ((Gf.pw 2 i : Nat) : Int) := by
  rw [List.getD_eq_getElem?_getD, List.getElem?_eq_getElem (by rw [expN_length]; exact hi), expN_get]; rfl
theorem ordR_spec (a : Nat) : ∀ f n, (∀ i, 0 < i → i < n → Gf.pw a i ≠ 1) → 0 < n → Gf.pw a (n + f) = 1 → 0 < ordR a f n ∧ ordR a f n ≤ n + f ∧ Gf.pw a (ordR a f n) = 1 ∧ ∀ i, 0 < i → i < ordR a f n → Gf.pw a i ≠ 1
  | 0, n, h, h0, h1 => ⟨h0, by unfold ordR; omega, h1, h⟩
  | f + 1, n, h, h0, h1 => by
    unfold ordR
    by_cases he : Gf.pw a n = 1
    · rw [if_pos he]; exact ⟨h0, by omega, he, h⟩
    · rw [if_neg he]
      obtain ⟨a1, a2, a3, a4⟩ := ordR_spec a f (n + 1) (fun i hi hn => by
        by_cases hin : i = n
        · subst hin; exact he
        · exact h i hi (by omega)) (by omega) (by rw [show n + 1 + f = n + (f + 1) by omega]; exact h1)
      exact ⟨a1, by omega, a3, a4⟩
theorem expI_c (w : World) : Calls Try.prog 23 #[] w fun e w' => ∃ v : Value, e = .returned v ∧ (Kd.int .i64).R 3 w' w.heap.size (fun _ => True) v (expN 255) ∧ Below w.heap.size w w' := by
  obtain ⟨K, hK⟩ := impl_ExpTable_ev.rounds
  exact impl_ExpTable.calls K _ w hK
theorem logI_c (w : World) : Calls Try.prog 24 #[] w fun e w' => ∃ v : Value, e = .returned v ∧ (Kd.int .i64).R 3 w' w.heap.size (fun _ => True) v logT ∧ Below w.heap.size w w' := by
  obtain ⟨K, hK⟩ := impl_LogTable_ev.rounds
  exact impl_LogTable.calls K _ w hK
/-- A row's cells. -/
theorem R_cells {b : Nat} {ok : Nat → Prop} {w : World} {v : Value} {l : List Int} (h : (Kd.int .i64).R 3 w b ok v l) (hp : 0 < l.length) : ∃ g cap, v = .slice (some ⟨g, 0, none⟩) l.length cap ∧ g < w.heap.size ∧ ∀ i, i < l.length → w.cell? ⟨g, i, none⟩ = some (.int .i64 (l.getD i 0)) := by
  obtain ⟨g, cap, rfl, hb, hg, _⟩ := Kd.R_form h hp
  refine ⟨g, cap, rfl, hg, fun i hi => ?_⟩
  have := (Kd.R_celln (0 : Int) h (i : Int) (by omega) (by omega)).1
  rw [Int.toNat_natCast] at this
  rw [this]
  unfold rdOf
  rw [Int.toNat_natCast]

set_option maxHeartbeats 2000000 in
set_option maxRecDepth 100000 in
theorem laws_FnField_calls (A0 : Option Addr) (c0 : Nat) (l0 : List Int) (A1 : Option Addr) (c1 : Nat) (l1 : List Int) (w : World) (hr0 : (Kd.int .u8).C w A0 l0.length l0) (hc0 : l0.length ≤ c0) (y0 : l0.length * 1 ≤ 140737488351232) (hw0 : ∀ x ∈ l0, (Lit.int .u8 x).wf = true)
    (hr1 : (Kd.int .u8).C w A1 l1.length l1) (hc1 : l1.length ≤ c1) (y1 : l1.length * 1 ≤ 140737488351232) (hw1 : ∀ x ∈ l1, (Lit.int .u8 x).wf = true) :
    Calls Try.prog 3 #[.slice A0 l0.length c0, .slice A1 l1.length c1] w fun e w' => e = .returned (.bool true) ∧ Below w.heap.size w w' := by
  have HB := Aside0.mk (Below.refl w.heap.size w)
  have HR1 := Aside0.mk hr1
  have HC0 := Aside0.mk hc0
  have HC1 := Aside0.mk hc1
  by_cases hlen : l0.length + l1.length ≤ 1048576
  rotate_left
  · clear hr0 hr1 hc0 hc1
    go_enter Try.func3, Try.ntmps3
    go_wp2
    go_ret
    exact ⟨rfl, HB.out⟩
  obtain ⟨a, b, hd1⟩ := spec_DrawMulGf_ex (wf_BY hw0)
  obtain ⟨u, n, hd2⟩ := spec_DrawPowGf_ex (wf_BY hw1)
  obtain ⟨t, hd3⟩ := spec_DrawOrderGf_ex (wf_BY hw1)
  obtain ⟨nn, hnE, hn3⟩ := laws_numberOf_ex (wf_BY hw1) (by omega)
  obtain ⟨KN, hN⟩ := hnE.rounds
  have cD1 := fun w (h : (Kd.int .u8).C w A0 l0.length l0) => spec_DrawMulGf.calls A0 c0 l0 a b w h HC0.out hd1
  have cD2 := fun w (h : (Kd.int .u8).C w A1 l1.length l1) => spec_DrawPowGf.calls A1 c1 l1 u n w h HC1.out hd2
  have cD3 := fun w (h : (Kd.int .u8).C w A1 l1.length l1) => spec_DrawOrderGf.calls A1 c1 l1 t w h HC1.out hd3
  have cN := fun w (h : (Kd.int .u8).C w A1 l1.length l1) => (laws_numberOf.calls KN A1 c1 l1 (nn : Int) w h HC1.out hN).mono (R' := fun e w' => e = .returned (.int .i64 (nn : Int)) ∧ Below w.heap.size w w') fun e w' ⟨he, hd⟩ => ⟨he, hd.below⟩
  clear hd1 hd2 hd3 hnE hN hw0 hw1 hr1 hc0 hc1
  have HR0 := Aside0.mk hr0
  clear hr0
  go_enter Try.func3, Try.ntmps3
  go_wp2_with fail
  refine (cD1 _ HR0.out).mono ?_
  rintro e w1 ⟨rfl, hb⟩
  replace HB := Aside0.mk hb
  replace HR1 := Aside0.mk (Kd.C_below HR1.out hb)
  clear hb HR0
  obtain ⟨p, q, hm⟩ : ∃ p q, mulGf a b = (p, q) := ⟨_, _, rfl⟩
  obtain ⟨s, q2, ha⟩ : ∃ p q, addV a b = (p, q) := ⟨_, _, rfl⟩
  obtain ⟨d, q3, hd⟩ : ∃ p q, divV a b = (p, q) := ⟨_, _, rfl⟩
  have x1 : (q != q) = false := by simp
  have x2 : (q2 != q2) = false := by simp
  have x3 : (q3 != q3) = false := by simp
  have cm1 := mulI_c a b p q hm
  have cm2 := mulS_c a b p q hm
  have ca1 := addI_c a b s q2 ha
  have ca2 := addS_c a b s q2 ha
  have cd1 := divI_c a b d q3 hd
  have cd2 := divS_c a b d q3 hd
  go_wp2_with fail
  (with_reducible refine (cm1 _).mono ?_)
  rintro e w101 ⟨rfl, hb⟩
  replace HB := Aside0.mk (HB.out.trans (hb.mono HB.out.size))
  replace HR1 := Aside0.mk (Kd.C_below HR1.out hb)
  clear hb
  go_wp2_with fail
  (with_reducible refine (cm2 _).mono ?_)
  rintro e w102 ⟨rfl, hb⟩
  replace HB := Aside0.mk (HB.out.trans (hb.mono HB.out.size))
  replace HR1 := Aside0.mk (Kd.C_below HR1.out hb)
  clear hb
  go_wp2_with fail
  (with_reducible refine (ca1 _).mono ?_)
  rintro e w103 ⟨rfl, hb⟩
  replace HB := Aside0.mk (HB.out.trans (hb.mono HB.out.size))
  replace HR1 := Aside0.mk (Kd.C_below HR1.out hb)
  clear hb
  go_wp2_with fail
  (with_reducible refine (ca2 _).mono ?_)
  rintro e w104 ⟨rfl, hb⟩
  replace HB := Aside0.mk (HB.out.trans (hb.mono HB.out.size))
  replace HR1 := Aside0.mk (Kd.C_below HR1.out hb)
  clear hb
  go_wp2_with fail
  (with_reducible refine (cd1 _).mono ?_)
  rintro e w105 ⟨rfl, hb⟩
  replace HB := Aside0.mk (HB.out.trans (hb.mono HB.out.size))
  replace HR1 := Aside0.mk (Kd.C_below HR1.out hb)
  clear hb
  go_wp2_with fail
  (with_reducible refine (cd2 _).mono ?_)
  rintro e w106 ⟨rfl, hb⟩
  replace HB := Aside0.mk (HB.out.trans (hb.mono HB.out.size))
  replace HR1 := Aside0.mk (Kd.C_below HR1.out hb)
  clear hb
  go_upto_if 128 with (fail)
  go_cut [] (fun wc => Aside0 (Below w.heap.size w wc) ∧ Aside0 ((Kd.int .u8).C wc A1 l1.length l1))
  case first =>
    as_aux_lemma =>
      by_cases hab : isB a = true ∧ isB b = true
      rotate_left
      · have hq : mulGf a b = (0, false) := by
          unfold mulGf
          rw [if_neg (by simpa using hab)]
        rw [hm] at hq
        injection hq with hq1 hq2
        subst hq1 hq2
        clear hm cm1 cm2 ca1 ca2 cd1 cd2 cN cD2 cD3
        go_wp2
        go_meet
        exact ⟨HB, HR1⟩
      obtain ⟨x, rfl, hx⟩ := isB_nat hab.1
      obtain ⟨y, rfl, hy⟩ := isB_nat hab.2
      clear hab
      have e1 : (nn : Int) % 256 = ((nn % 256 : Nat) : Int) := by omega
      have e2 : Int.tmod (nn : Int) 256 = ((nn % 256 : Nat) : Int) := rfl
      have hc : nn % 256 < 256 := Nat.mod_lt _ (by decide)
      generalize nn % 256 = c at e1 e2 hc
      have hp := hm.symm.trans (mulGf_nat hx hy)
      injection hp with hp1 hp2
      subst hp2
      have hpl := Gf.gm_lt y hx
      have hbs := Gf.xor_byte hy hc
      have m1 := mulI_c _ _ _ _ (mulGf_nat hy hx)
      have m2 := mulI_c _ _ _ _ (mulGf_nat hpl hc)
      have m3 := mulI_c _ _ _ _ (mulGf_nat hy hc)
      have m4 := mulI_c _ _ _ _ (mulGf_nat hx (Gf.gm_lt c hy))
      have m5 := addI_c _ _ _ _ (addV_nat hy hc)
      have m6 := mulI_c _ _ _ _ (mulGf_nat hx hbs)
      have m7 := mulI_c _ _ _ _ (mulGf_nat hx hc)
      have m8 := addI_c _ _ _ _ (addV_nat hpl (Gf.gm_lt c hx))
      rw [Gf.gm_comm hy hx] at m1
      rw [← Gf.gm_assoc _ hx hy hc] at m4
      rw [Gf.gm_add] at m6
      subst hp1
      have hz := Gf.gm_eq_zero hx hy
      have hdv : divV (x : Int) (y : Int) = if y = 0 then (0, false) else (((Gf.gm x (Gf.gi y) : Nat) : Int), true) := by
        unfold divV
        rw [isB_cast hx, isB_cast hy]
        by_cases h : y = 0
        · subst h; rfl
        · rw [if_neg h, show ((y : Int) == 0) = false by simpa using h]; rfl
      have hback : y ≠ 0 → Gf.gm (Gf.gm x (Gf.gi y)) y = x := fun h => by rw [Gf.gm_assoc _ hx (Gf.gi_lt y) hy, Gf.gi_gm hy h, Gf.gm_one x hx]
      have m9 := mulI_c _ _ _ _ (mulGf_nat (Gf.gm_lt (Gf.gi y) hx) hy)
      generalize hPd : Gf.gm x y = P at *
      have HPD := Aside0.mk hPd
      clear hPd
      have pos : ∀ z : Nat, z ≠ 0 → ((z : Int) == 0) = false ∧ decide ((0 : Int) < (z : Int)) = true ∧ decide (0 < z) = true := fun z h => ⟨by simpa using h, decide_eq_true (by omega), decide_eq_true (by omega)⟩
      have nul : ∀ z : Nat, z = 0 → ((z : Int) == 0) = true ∧ decide ((0 : Int) < (z : Int)) = false ∧ decide (0 < z) = false := fun z h => ⟨by subst h; rfl, decide_eq_false (by omega), decide_eq_false (by omega)⟩
      by_cases hy0 : y = 0
      · rw [if_pos hy0] at hdv
        have hq := hd.symm.trans hdv
        injection hq with hq1 hq2
        subst hq1 hq2
        obtain ⟨f1, g1, k1⟩ := nul y hy0
        obtain ⟨f3, g3, k3⟩ := nul P (hz.2 (.inr hy0))
        clear hy0 hdv hback hd cd1 cd2 cm1 cm2 ca1 ca2 hm cD2 cD3 m9
        by_cases hx0 : x = 0
        · obtain ⟨f2, g2, k2⟩ := nul x hx0
          clear hx0 hz pos nul
          as_aux_lemma =>
            go_wp2_with fail
            refine (cN _ HR1.out).mono ?_
            rintro e w110 ⟨rfl, hb⟩
            replace HB := Aside0.mk (HB.out.trans (hb.mono HB.out.size))
            replace HR1 := Aside0.mk (Kd.C_below HR1.out hb)
            clear hb
            go_wp2_with fail
            (with_reducible refine (m1 _).mono ?_)
            rintro e w107 ⟨rfl, hb⟩
            replace HB := Aside0.mk (HB.out.trans (hb.mono HB.out.size))
            replace HR1 := Aside0.mk (Kd.C_below HR1.out hb)
            clear hb
            go_wp2_with fail
            (with_reducible refine (m2 _).mono ?_)
            rintro e w108 ⟨rfl, hb⟩
            replace HB := Aside0.mk (HB.out.trans (hb.mono HB.out.size))
            replace HR1 := Aside0.mk (Kd.C_below HR1.out hb)
            clear hb
            go_wp2_with fail
            (with_reducible refine (m3 _).mono ?_)
            rintro e w109 ⟨rfl, hb⟩
            replace HB := Aside0.mk (HB.out.trans (hb.mono HB.out.size))
            replace HR1 := Aside0.mk (Kd.C_below HR1.out hb)
            clear hb
            go_wp2_with fail
            (with_reducible refine (m4 _).mono ?_)
            rintro e w110 ⟨rfl, hb⟩
            replace HB := Aside0.mk (HB.out.trans (hb.mono HB.out.size))
            replace HR1 := Aside0.mk (Kd.C_below HR1.out hb)
            clear hb
            go_wp2_with fail
            (with_reducible refine (m5 _).mono ?_)
            rintro e w111 ⟨rfl, hb⟩
            replace HB := Aside0.mk (HB.out.trans (hb.mono HB.out.size))
            replace HR1 := Aside0.mk (Kd.C_below HR1.out hb)
            clear hb
            go_wp2_with fail
            (with_reducible refine (m6 _).mono ?_)
            rintro e w112 ⟨rfl, hb⟩
            replace HB := Aside0.mk (HB.out.trans (hb.mono HB.out.size))
            replace HR1 := Aside0.mk (Kd.C_below HR1.out hb)
            clear hb
            go_wp2_with fail
            (with_reducible refine (m7 _).mono ?_)
            rintro e w113 ⟨rfl, hb⟩
            replace HB := Aside0.mk (HB.out.trans (hb.mono HB.out.size))
            replace HR1 := Aside0.mk (Kd.C_below HR1.out hb)
            clear hb
            go_wp2_with fail
            (with_reducible refine (m8 _).mono ?_)
            rintro e w114 ⟨rfl, hb⟩
            replace HB := Aside0.mk (HB.out.trans (hb.mono HB.out.size))
            replace HR1 := Aside0.mk (Kd.C_below HR1.out hb)
            clear hb
            go_wp2
            go_meet
            exact ⟨HB, HR1⟩
        · obtain ⟨f2, g2, k2⟩ := pos x hx0
          clear hx0 hz pos nul
          as_aux_lemma =>
            go_wp2_with fail
            refine (cN _ HR1.out).mono ?_
            rintro e w110 ⟨rfl, hb⟩
            replace HB := Aside0.mk (HB.out.trans (hb.mono HB.out.size))
            replace HR1 := Aside0.mk (Kd.C_below HR1.out hb)
            clear hb
            go_wp2_with fail
            (with_reducible refine (m1 _).mono ?_)
            rintro e w115 ⟨rfl, hb⟩
            replace HB := Aside0.mk (HB.out.trans (hb.mono HB.out.size))
            replace HR1 := Aside0.mk (Kd.C_below HR1.out hb)
            clear hb
            go_wp2_with fail
            (with_reducible refine (m2 _).mono ?_)
            rintro e w116 ⟨rfl, hb⟩
            replace HB := Aside0.mk (HB.out.trans (hb.mono HB.out.size))
            replace HR1 := Aside0.mk (Kd.C_below HR1.out hb)
            clear hb
            go_wp2_with fail
            (with_reducible refine (m3 _).mono ?_)
            rintro e w117 ⟨rfl, hb⟩
            replace HB := Aside0.mk (HB.out.trans (hb.mono HB.out.size))
            replace HR1 := Aside0.mk (Kd.C_below HR1.out hb)
            clear hb
            go_wp2_with fail
            (with_reducible refine (m4 _).mono ?_)
            rintro e w118 ⟨rfl, hb⟩
            replace HB := Aside0.mk (HB.out.trans (hb.mono HB.out.size))
            replace HR1 := Aside0.mk (Kd.C_below HR1.out hb)
            clear hb
            go_wp2_with fail
            (with_reducible refine (m5 _).mono ?_)
            rintro e w119 ⟨rfl, hb⟩
            replace HB := Aside0.mk (HB.out.trans (hb.mono HB.out.size))
            replace HR1 := Aside0.mk (Kd.C_below HR1.out hb)
            clear hb
            go_wp2_with fail
            (with_reducible refine (m6 _).mono ?_)
            rintro e w120 ⟨rfl, hb⟩
            replace HB := Aside0.mk (HB.out.trans (hb.mono HB.out.size))
            replace HR1 := Aside0.mk (Kd.C_below HR1.out hb)
            clear hb
            go_wp2_with fail
            (with_reducible refine (m7 _).mono ?_)
            rintro e w121 ⟨rfl, hb⟩
            replace HB := Aside0.mk (HB.out.trans (hb.mono HB.out.size))
            replace HR1 := Aside0.mk (Kd.C_below HR1.out hb)
            clear hb
            go_wp2_with fail
            (with_reducible refine (m8 _).mono ?_)
            rintro e w122 ⟨rfl, hb⟩
            replace HB := Aside0.mk (HB.out.trans (hb.mono HB.out.size))
            replace HR1 := Aside0.mk (Kd.C_below HR1.out hb)
            clear hb
            go_wp2
            go_meet
            exact ⟨HB, HR1⟩
      rw [if_neg hy0] at hdv
      have hq := hd.symm.trans hdv
      injection hq with hq1 hq2
      subst hq1 hq2
      have hbk := hback hy0
      rw [hbk] at m9
      clear hback hdv hd cd1 cd2 cm1 cm2 ca1 ca2 hm cD2 cD3 hbk
      obtain ⟨f1, g1, k1⟩ := pos y hy0
      by_cases hx0 : x = 0
      · obtain ⟨f2, g2, k2⟩ := nul x hx0
        obtain ⟨f3, g3, k3⟩ := nul P (hz.2 (.inl hx0))
        clear hz pos nul hx0 hy0
        as_aux_lemma =>
          go_wp2_with fail
          refine (cN _ HR1.out).mono ?_
          rintro e w110 ⟨rfl, hb⟩
          replace HB := Aside0.mk (HB.out.trans (hb.mono HB.out.size))
          replace HR1 := Aside0.mk (Kd.C_below HR1.out hb)
          clear hb
          go_wp2_with fail
          (with_reducible refine (m1 _).mono ?_)
          rintro e w123 ⟨rfl, hb⟩
          replace HB := Aside0.mk (HB.out.trans (hb.mono HB.out.size))
          replace HR1 := Aside0.mk (Kd.C_below HR1.out hb)
          clear hb
          go_wp2_with fail
          (with_reducible refine (m2 _).mono ?_)
          rintro e w124 ⟨rfl, hb⟩
          replace HB := Aside0.mk (HB.out.trans (hb.mono HB.out.size))
          replace HR1 := Aside0.mk (Kd.C_below HR1.out hb)
          clear hb
          go_wp2_with fail
          (with_reducible refine (m3 _).mono ?_)
          rintro e w125 ⟨rfl, hb⟩
          replace HB := Aside0.mk (HB.out.trans (hb.mono HB.out.size))
          replace HR1 := Aside0.mk (Kd.C_below HR1.out hb)
          clear hb
          go_wp2_with fail
          (with_reducible refine (m4 _).mono ?_)
          rintro e w126 ⟨rfl, hb⟩
          replace HB := Aside0.mk (HB.out.trans (hb.mono HB.out.size))
          replace HR1 := Aside0.mk (Kd.C_below HR1.out hb)
          clear hb
          go_wp2_with fail
          (with_reducible refine (m5 _).mono ?_)
          rintro e w127 ⟨rfl, hb⟩
          replace HB := Aside0.mk (HB.out.trans (hb.mono HB.out.size))
          replace HR1 := Aside0.mk (Kd.C_below HR1.out hb)
          clear hb
          go_wp2_with fail
          (with_reducible refine (m6 _).mono ?_)
          rintro e w128 ⟨rfl, hb⟩
          replace HB := Aside0.mk (HB.out.trans (hb.mono HB.out.size))
          replace HR1 := Aside0.mk (Kd.C_below HR1.out hb)
          clear hb
          go_wp2_with fail
          (with_reducible refine (m7 _).mono ?_)
          rintro e w129 ⟨rfl, hb⟩
          replace HB := Aside0.mk (HB.out.trans (hb.mono HB.out.size))
          replace HR1 := Aside0.mk (Kd.C_below HR1.out hb)
          clear hb
          go_wp2_with fail
          (with_reducible refine (m8 _).mono ?_)
          rintro e w130 ⟨rfl, hb⟩
          replace HB := Aside0.mk (HB.out.trans (hb.mono HB.out.size))
          replace HR1 := Aside0.mk (Kd.C_below HR1.out hb)
          clear hb
          go_wp2_with fail
          (with_reducible refine (m9 _).mono ?_)
          rintro e w131 ⟨rfl, hb⟩
          replace HB := Aside0.mk (HB.out.trans (hb.mono HB.out.size))
          replace HR1 := Aside0.mk (Kd.C_below HR1.out hb)
          clear hb
          go_wp2
          go_meet
          exact ⟨HB, HR1⟩
      · obtain ⟨f2, g2, k2⟩ := pos x hx0
        obtain ⟨f3, g3, k3⟩ := pos P (fun h => by rcases hz.1 h with h | h <;> contradiction)
        clear hz pos nul
        as_aux_lemma =>
          go_wp2_with fail
          refine (cN _ HR1.out).mono ?_
          rintro e w110 ⟨rfl, hb⟩
          replace HB := Aside0.mk (HB.out.trans (hb.mono HB.out.size))
          replace HR1 := Aside0.mk (Kd.C_below HR1.out hb)
          clear hb
          go_wp2_with fail
          (with_reducible refine (m1 _).mono ?_)
          rintro e w132 ⟨rfl, hb⟩
          replace HB := Aside0.mk (HB.out.trans (hb.mono HB.out.size))
          replace HR1 := Aside0.mk (Kd.C_below HR1.out hb)
          clear hb
          go_wp2_with fail
          (with_reducible refine (m2 _).mono ?_)
          rintro e w133 ⟨rfl, hb⟩
          replace HB := Aside0.mk (HB.out.trans (hb.mono HB.out.size))
          replace HR1 := Aside0.mk (Kd.C_below HR1.out hb)
          clear hb
          go_wp2_with fail
          (with_reducible refine (m3 _).mono ?_)
          rintro e w134 ⟨rfl, hb⟩
          replace HB := Aside0.mk (HB.out.trans (hb.mono HB.out.size))
          replace HR1 := Aside0.mk (Kd.C_below HR1.out hb)
          clear hb
          go_wp2_with fail
          (with_reducible refine (m4 _).mono ?_)
          rintro e w135 ⟨rfl, hb⟩
          replace HB := Aside0.mk (HB.out.trans (hb.mono HB.out.size))
          replace HR1 := Aside0.mk (Kd.C_below HR1.out hb)
          clear hb
          go_wp2_with fail
          (with_reducible refine (m5 _).mono ?_)
          rintro e w136 ⟨rfl, hb⟩
          replace HB := Aside0.mk (HB.out.trans (hb.mono HB.out.size))
          replace HR1 := Aside0.mk (Kd.C_below HR1.out hb)
          clear hb
          go_wp2_with fail
          (with_reducible refine (m6 _).mono ?_)
          rintro e w137 ⟨rfl, hb⟩
          replace HB := Aside0.mk (HB.out.trans (hb.mono HB.out.size))
          replace HR1 := Aside0.mk (Kd.C_below HR1.out hb)
          clear hb
          go_wp2_with fail
          (with_reducible refine (m7 _).mono ?_)
          rintro e w138 ⟨rfl, hb⟩
          replace HB := Aside0.mk (HB.out.trans (hb.mono HB.out.size))
          replace HR1 := Aside0.mk (Kd.C_below HR1.out hb)
          clear hb
          go_wp2_with fail
          (with_reducible refine (m8 _).mono ?_)
          rintro e w139 ⟨rfl, hb⟩
          replace HB := Aside0.mk (HB.out.trans (hb.mono HB.out.size))
          replace HR1 := Aside0.mk (Kd.C_below HR1.out hb)
          clear hb
          go_wp2_with fail
          (with_reducible refine (m9 _).mono ?_)
          rintro e w140 ⟨rfl, hb⟩
          replace HB := Aside0.mk (HB.out.trans (hb.mono HB.out.size))
          replace HR1 := Aside0.mk (Kd.C_below HR1.out hb)
          clear hb
          obtain ⟨ix, hix, hex⟩ := Gfx.pw2_all hx hx0
          obtain ⟨iy, hiy, hey⟩ := Gfx.pw2_all hy hy0
          go_wp2_with fail
          refine (expI_c _).mono ?_
          rintro e w120 ⟨v1, rfl, hv1, hb⟩
          obtain ⟨ge, ne, rfl, hge, hce⟩ := R_cells hv1 (by rw [expN_length]; omega)
          rw [expN_length] at hce ⊢
          replace HB := Aside0.mk (HB.out.trans (hb.mono HB.out.size))
          replace HR1 := Aside0.mk (Kd.C_below HR1.out hb)
          clear hb
          go_wp2_with fail
          refine (logI_c _).mono ?_
          rintro e w121 ⟨v2, rfl, hv2, hb⟩
          obtain ⟨gl, nl, rfl, hgl, hcl⟩ := R_cells hv2 (by rw [logT_length]; omega)
          rw [logT_length] at hcl ⊢
          have qe : ∀ i, i < 255 → w121.cell? ⟨ge, i, none⟩ = some (.int .i64 ((Gf.pw 2 i : Nat) : Int)) := fun i hi => by
            rw [← expN_at hi, ← hce i hi]
            exact hb.cell (p := ⟨ge, i, none⟩) hge
          replace HB := Aside0.mk (HB.out.trans (hb.mono HB.out.size))
          replace HR1 := Aside0.mk (Kd.C_below HR1.out hb)
          clear hb
          have ql : ∀ i, i < 255 → w121.cell? ⟨gl, Gf.pw 2 i, none⟩ = some (.int .i64 (i : Int)) := fun i hi => by
            rw [hcl _ (Gf.pw_lt i), logT_at hi]
          have r1 := ql ix hix
          have r2 := ql iy hiy
          have r3 := qe ((ix + iy) % 255) (Nat.mod_lt _ (by decide))
          have r4 := qe (c % 255) (Nat.mod_lt _ (by decide))
          have r5 := ql (c % 255) (Nat.mod_lt _ (by decide))
          rw [hex] at r1
          rw [hey] at r2
          rw [Gfx.pw2_mod, Gf.pw_add (by decide), hex, hey] at r3
          rw [HPD.out] at r3
          rw [show ((c % 255 : Nat) : Int) = (c : Int) % 255 by omega] at r5
          have z1 : (ix + iy) % 255 < 255 := Nat.mod_lt _ (by decide)
          have z2 : c % 255 < 255 := Nat.mod_lt _ (by decide)
          have z3 : Gf.pw 2 (c % 255) < 256 := Gf.pw_lt _
          generalize Gf.pw 2 (c % 255) = pc at r4 r5 z3
          clear hce hcl qe ql hv1 hv2 hex hey cN m1 m2 m3 m4 m5 m6 m7 m8 m9
          go_wp2_with fail
          go_quiet (fail)
          go_wp2_with fail
          go_meet
          exact ⟨⟨pw_below_drewN HB.out _⟩, ⟨Kd.C_drewN HR1.out _⟩⟩
  case rest =>
    as_aux_lemma =>
      clear HB HR1
      obtain ⟨HB, HR1⟩ := hcut
      clear cm1 cm2 ca1 ca2 cd1 cd2 cN
      obtain ⟨p2, q4, hw⟩ : ∃ p q, powV u n = (p, q) := ⟨_, _, rfl⟩
      obtain ⟨o, q5, ho⟩ : ∃ p q, orderGf t = (p, q) := ⟨_, _, rfl⟩
      have x4 : (q4 != q4) = false := by simp
      have x5 : (q5 != q5) = false := by simp
      have cp1 := powI_c u n p2 q4 hw
      have cp2 := powS_c u n p2 q4 hw
      have co1 := ordI_c t o q5 ho
      have co2 := ordS_c t o q5 ho
      go_wp2_with fail
      refine (cD2 _ HR1.out).mono ?_
      rintro e w130 ⟨rfl, hb⟩
      replace HB := Aside0.mk (HB.out.trans (hb.mono HB.out.size))
      replace HR1 := Aside0.mk (Kd.C_below HR1.out hb)
      clear hb
      go_wp2_with fail
      (with_reducible refine (cp1 _).mono ?_)
      rintro e w141 ⟨rfl, hb⟩
      replace HB := Aside0.mk (HB.out.trans (hb.mono HB.out.size))
      replace HR1 := Aside0.mk (Kd.C_below HR1.out hb)
      clear hb
      go_wp2_with fail
      (with_reducible refine (cp2 _).mono ?_)
      rintro e w142 ⟨rfl, hb⟩
      replace HB := Aside0.mk (HB.out.trans (hb.mono HB.out.size))
      replace HR1 := Aside0.mk (Kd.C_below HR1.out hb)
      clear hb
      go_wp2_with fail
      refine (cD3 _ HR1.out).mono ?_
      rintro e w131 ⟨rfl, hb⟩
      replace HB := Aside0.mk (HB.out.trans (hb.mono HB.out.size))
      replace HR1 := Aside0.mk (Kd.C_below HR1.out hb)
      clear hb
      go_wp2_with fail
      (with_reducible refine (co1 _).mono ?_)
      rintro e w143 ⟨rfl, hb⟩
      replace HB := Aside0.mk (HB.out.trans (hb.mono HB.out.size))
      replace HR1 := Aside0.mk (Kd.C_below HR1.out hb)
      clear hb
      go_wp2_with fail
      (with_reducible refine (co2 _).mono ?_)
      rintro e w144 ⟨rfl, hb⟩
      replace HB := Aside0.mk (HB.out.trans (hb.mono HB.out.size))
      replace HR1 := Aside0.mk (Kd.C_below HR1.out hb)
      clear hb
      clear cD2 cD3 cp1 cp2 co1 co2 hw
      by_cases ht : 1 ≤ t ∧ t ≤ 255
      rotate_left
      · have hq : orderGf t = (0, false) := if_neg ht
        rw [ho] at hq
        injection hq with hq1 hq2
        subst hq1 hq2
        clear ho
        go_wp2
        go_ret
        exact ⟨rfl, HB.out⟩
      obtain ⟨z, rfl⟩ : ∃ z : Nat, t = (z : Int) := ⟨t.toNat, by omega⟩
      have hz : z < 256 := by omega
      have hq : orderGf (z : Int) = (((ordR z 254 1 : Nat) : Int), true) := if_pos ht
      obtain ⟨o1, o2, o3, o4⟩ := ordR_spec z 254 1 (fun i h1 h2 => by omega) (by omega) (Gf.pw_255 hz (by omega))
      have o5 := Gfx.order_div hz (by omega) o1 o3 o4
      rw [ho] at hq
      injection hq with hq1 hq2
      subst hq1 hq2
      generalize ordR z 254 1 = r at o1 o2 o3 o5
      have hpw : powV (z : Int) (r : Int) = (1, true) := by
        unfold powV
        rw [isB_cast hz, decide_eq_true (by omega), Int.toNat_natCast, Int.toNat_natCast, o3]; rfl
      have cp3 := powI_c _ _ _ _ hpw
      have u1 : (255 : Int) % (r : Int) = 0 := by
        rw [show (255 : Int) = ((255 : Nat) : Int) from rfl, ← Int.natCast_emod, o5]; rfl
      have u2 : Int.tmod (255 : Int) (r : Int) = 0 := by
        show ((255 % r : Nat) : Int) = 0
        rw [o5]; rfl
      clear ho hpw o3 o4 o5 ht
      go_wp2_with fail
      (with_reducible refine (cp3 _).mono ?_)
      rintro e w145 ⟨rfl, hb⟩
      replace HB := Aside0.mk (HB.out.trans (hb.mono HB.out.size))
      replace HR1 := Aside0.mk (Kd.C_below HR1.out hb)
      clear hb
      go_wp2
      go_ret
      exact ⟨by simp, HB.out⟩

end Go.Proofs.Ytncgojfhaagkkaa.Pure
