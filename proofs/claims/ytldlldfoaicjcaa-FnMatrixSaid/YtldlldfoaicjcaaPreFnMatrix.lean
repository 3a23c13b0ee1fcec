/- Values and contracts that the law's own text builds on. No conditions beyond those typed. -/
import Derived.Test.YtldlldfoaicjcaaMFnMatrixx6
import Derived.Test.YtldlldfoaicjcaaMFnMatrixx0
import Derived.Test.YtldlldfoaicjcaaMFnMatrixx1
import Derived.Test.YtldlldfoaicjcaaMFnMatrixx2
import Derived.Test.YtldlldfoaicjcaaMFnMatrixx3
import Derived.Test.YtldlldfoaicjcaaMFnMatrixx4
import Derived.Test.YtldlldfoaicjcaaMFnMatrixx5
import Derived.Test.YtldlldfoaicjcaaBit
import Derived.Test.YtldlldfoaicjcaaPoly
import Derived.Test.YtldlldfoaicjcaaMat
import Derived.Test.YtldlldfoaicjcaaLin
import Derived.Test.YtldlldfoaicjcaaElim
import Derived.Test.YtldlldfoaicjcaaMx
import Derived.Test.YtldlldfoaicjcaaEnv
import Derived.RegionTactic
import Derived.ChangeAlike
import Derived.BigRegion
import Derived.StillTailTactics
set_option linter.unusedVariables false
set_option linter.unusedSimpArgs false
namespace Go.Proofs.Ytldlldfoaicjcaa.Pure
open Go.RowKit Go.Proofs.Ytldlldfoaicjcaa Go.Proofs.Ytldlldfoaicjcaa.MFnMatrix Go.Proofs.YtldlldfoaicjcaaW.PrintWords Go.Proofs.YtldlldfoaicjcaaW.PrintLast Go.Proofs.Ytldlldfoaicjcaa.Bit

theorem impl_within_eq (a b c : Int) : impl_within.f a b c = some (decide (b ≤ a ∧ a ≤ c)) := by
  unfold impl_within.f
  by_cases h : a ≥ b
  · rw [if_pos h]; congr 1; simp [show b ≤ a from h]
  · rw [if_neg h]; congr 1; simp; omega

/-- Is a number an element? -/
def isB (a : Int) : Bool := decide (0 ≤ a ∧ a ≤ 255)
theorem isB_nat {a : Int} (h : isB a = true) : ∃ n : Nat, a = (n : Int) ∧ n < 256 := by
  simp only [isB, decide_eq_true_eq] at h
  exact ⟨a.toNat, by omega, by omega⟩
theorem isB_cast {n : Nat} (h : n < 256) : isB (n : Int) = true := by simp only [isB, decide_eq_true_eq]; omega

theorem impl_isGf_eq (a : Int) : impl_isGf.f a = some (isB a) := by
  unfold impl_isGf.f; rw [impl_within_eq]; rfl

theorem rd_nat (l : List Int) (i : Nat) (h : i < l.length) : rd l (i : Int) = l[i] := by
  unfold rd
  simp [List.getD_eq_getElem?_getD, List.getElem?_eq_getElem h]
theorem wrap_succ (i : Nat) (h : i < 9223372036854775807) : wrap64 ((i : Int) + 1) = ((i + 1 : Nat) : Int) := by rw [wrap_id (by omega) (by omega)]; omega

theorem and_255 (x : Int) : 0 ≤ Go.bits .and .u64 x 255 ∧ Go.bits .and .u64 x 255 ≤ 255 := by
  have h : Go.bits .and .u64 x 255 = IntKind.u64.wrap ((BitVec.ofInt 64 x &&& BitVec.ofInt 64 255).toNat : Int) := rfl
  rw [h, BitVec.toNat_and]
  have h2 : (BitVec.ofInt 64 255).toNat = 255 := by decide
  rw [h2]
  have h3 : (BitVec.ofInt 64 x).toNat &&& 255 ≤ 255 := Nat.and_le_right
  rw [IntKind.wrap_u64]
  omega
theorem wrap_in {n : Int} (h0 : -1000000000000000 ≤ n) (h1 : n ≤ 1000000000000000) : wrap64 n = n := wrap_id (by omega) (by omega)
theorem tmod_in (x n : Int) (hx : 0 ≤ x) (hn : 0 < n) : 0 ≤ Int.tmod x n ∧ Int.tmod x n < n ∧ Int.tmod x n ≤ x := by
  obtain ⟨a, rfl⟩ := nat_of hx
  obtain ⟨b, rfl⟩ := nat_of (a := n) (by omega)
  have e : Int.tmod (a : Int) (b : Int) = ((a % b : Nat) : Int) := rfl
  rw [e]
  have := Nat.mod_lt a (show b > 0 by omega)
  have := Nat.mod_le a b
  omega
/-- The bytes that are drawn from. -/
def BY (s : List Int) : Prop := ∀ x ∈ s, 0 ≤ x ∧ x ≤ 255
theorem wf_BY {s : List Int} (h : ∀ x ∈ s, (Lit.int .u8 x).wf = true) : BY s := fun x hx => by
  have := h x hx
  simp only [Lit.wf, IntKind.min, IntKind.max, IntKind.signed, IntKind.bits, Bool.and_eq_true, decide_eq_true_eq] at this
  simp at this
  omega
theorem BY.rd {s : List Int} (h : BY s) (i : Int) : 0 ≤ rd s i ∧ rd s i ≤ 255 := by
  unfold Go.Proofs.YtldlldfoaicjcaaW.PrintWords.rd
  rw [List.getD_eq_getElem?_getD]
  cases e : s[i.toNat]? with
  | none => exact ⟨Int.le_refl _, (by decide : (0 : Int) ≤ 255)⟩
  | some v => exact h v (List.mem_of_getElem? e)

theorem spec_l1Cur_next_ex {s : List Int} (hs : BY s) {a : Int} (d : Int) (ha : 0 ≤ a) (hb : a ≤ 1000000000000) : ∃ v a' d', spec_l1Cur_next.f s a d = some (v, a', d') ∧ 0 ≤ v ∧ v ≤ 255 ∧ 0 ≤ a' ∧ a' ≤ a + 1 := by
  have ew : wrap64 (a + 1) = a + 1 := wrap_in (by omega) (by omega)
  unfold spec_l1Cur_next.f
  rw [ew]
  have hr := hs.rd a
  by_cases h1 : a < (s.length : Int)
  · rw [if_pos h1, if_pos ha]
    by_cases h2 : a + 1 ≤ (s.length : Int)
    · rw [if_pos h2]
      exact ⟨_, _, _, rfl, by rw [wrap_in (by omega) (by omega)]; omega, by rw [wrap_in (by omega) (by omega)]; omega, by omega, by omega⟩
    · omega
  · rw [if_neg h1]
    by_cases h2 : a + 1 ≤ (s.length : Int)
    · omega
    · rw [if_neg h2]
      generalize IntKind.u64.wrap ((IntKind.u64.wrap ((IntKind.u64.wrap (d * 6364136223846793005)))) + 1442695040888963407) = z
      have hz := and_255 (z / 1099511627776)
      exact ⟨_, _, _, rfl, by rw [wrap_in (by omega) (by omega)]; omega, by rw [wrap_in (by omega) (by omega)]; omega, by omega, by omega⟩

theorem spec_l1Cur_pick_ex {s : List Int} (hs : BY s) {a : Int} (d : Int) (n : Int) (ha : 0 ≤ a) (hb : a ≤ 900000000000) : ∃ v a' d', spec_l1Cur_pick.f s a d n = some (v, a', d') ∧ 0 ≤ v ∧ (v < n ∨ v = 0) ∧ v ≤ 65535 ∧ 0 ≤ a' ∧ a' ≤ a + 2 := by
  unfold spec_l1Cur_pick.f
  by_cases h1 : n ≤ 1
  · rw [if_pos h1]; exact ⟨_, _, _, rfl, by omega, by omega, by omega, by omega, by omega⟩
  · rw [if_neg h1]
    obtain ⟨v, a1, d1, e1, h2, h3, h4, h5⟩ := spec_l1Cur_next_ex hs d ha (by omega)
    rw [e1, Option.bind_some]
    by_cases h6 : n > 200
    · obtain ⟨v2, a2, d2, e2, h7, h8, h9, h10⟩ := spec_l1Cur_next_ex hs d1 h4 (by omega)
      have ew : wrap64 (wrap64 (v * 256) + v2) = v * 256 + v2 := by rw [wrap_in (n := v * 256) (by omega) (by omega), wrap_in (by omega) (by omega)]
      have ht := tmod_in (v * 256 + v2) n (by omega) (by omega)
      simp only [if_pos h6, e2, Option.bind_some, ew, if_neg (show ¬ n = 0 by omega)]
      exact ⟨_, _, _, rfl, by omega, by omega, by omega, by omega, by omega⟩
    · have ht := tmod_in v n (by omega) (by omega)
      simp only [if_neg h6, if_neg (show ¬ n = 0 by omega)]
      exact ⟨_, _, _, rfl, by omega, by omega, by omega, by omega, by omega⟩

theorem spec_l1Cur_one_ex {s : List Int} (hs : BY s) {a : Int} (d : Int) (n : Int) (ha : 0 ≤ a) (hb : a ≤ 900000000000) : ∃ v a' d', spec_l1Cur_one.f s a d n = some (v, a', d') ∧ 0 ≤ a' ∧ a' ≤ a + 2 := by
  obtain ⟨v, a1, d1, e1, h2, h3, h4, h5, h6⟩ := spec_l1Cur_pick_ex hs d n ha hb
  unfold spec_l1Cur_one.f
  rw [e1, Option.bind_some]
  exact ⟨_, _, _, rfl, h5, h6⟩

theorem spec_l1Cur_among_ex {s : List Int} (hs : BY s) {a : Int} (d : Int) (l : List Int) (ha : 0 ≤ a) (hb : a ≤ 900000000000) (hl : 0 < l.length) : ∃ v a' d', spec_l1Cur_among.f s a d l = some (v, a', d') ∧ v ∈ l ∧ 0 ≤ a' ∧ a' ≤ a + 2 := by
  obtain ⟨v, a1, d1, e1, h2, h3, h4, h5, h6⟩ := spec_l1Cur_pick_ex hs d (l.length : Int) ha hb
  have hv : v < (l.length : Int) := by omega
  obtain ⟨i, rfl⟩ := nat_of h2
  have hi : i < l.length := by omega
  unfold spec_l1Cur_among.f
  rw [e1, Option.bind_some, if_pos h2, if_pos hv]
  exact ⟨_, _, _, rfl, by rw [rd_nat l i hi]; exact List.getElem_mem hi, h5, h6⟩

theorem rd_get (l : List Int) (i : Nat) (h : i < l.length) : rd l (i : Int) = l[i] := by
  unfold rd
  simp [List.getD_eq_getElem?_getD, List.getElem?_eq_getElem h]
theorem wrap_up (i : Nat) (h : i < 9223372036854775807) : wrap64 ((i : Int) + 1) = ((i + 1 : Nat) : Int) := by rw [wrap_id (by omega) (by omega)]; omega
theorem wrap_down (a : Nat) (h : a ≤ 9223372036854775807) : wrap64 ((a : Int) - 1) = (a : Int) - 1 := wrap_id (by omega) (by omega)
theorem allB_up {l : List Int} (h : l.all isB = true) : ∃ m : List Nat, l = Poly.up m ∧ Poly.AllB m := by
  refine Poly.up_of fun x hx => ?_
  have := List.all_eq_true.1 h x hx
  simpa [isB] using this
theorem up_allB {m : List Nat} (h : Poly.AllB m) : (Poly.up m).all isB = true := by
  rw [List.all_eq_true]
  intro x hx
  have := Poly.up_bytes h x hx
  simp only [isB, decide_eq_true_eq]; omega

theorem impl_areGf_eq (l : List Int) : impl_areGf.f l = some (l.all isB) := by
  unfold impl_areGf.f
  have e : impl_areGf.bad = fun n => !isB n := by
    funext n
    simp only [impl_areGf.bad, isB]
  rw [e, List.all_eq_not_any_not]

theorem rdL_nat (l : List (List Int)) (i : Nat) (h : i < l.length) : rd_L2 l (i : Int) = l[i] := by
  unfold rd_L2
  simp [List.getD_eq_getElem?_getD, List.getElem?_eq_getElem h]

theorem xor_up {a b : Nat} (ha : a < 256) (hb : b < 256) : Go.bits .xor .i64 (a : Int) (b : Int) = ((a ^^^ b : Nat) : Int) := xor_nat (by omega) (by omega)
theorem wrap_nat (n : Nat) (h : n ≤ 9223372036854775807) : wrap64 (n : Int) = (n : Int) := wrap_id (by omega) (by omega)
theorem wrap_add (a b : Nat) (h : a + b ≤ 9223372036854775807) : wrap64 ((a : Int) + (b : Int)) = ((a + b : Nat) : Int) := by rw [wrap_id (by omega) (by omega)]; omega
theorem wrap_pred (a : Nat) (h : a ≤ 9223372036854775807) (h0 : 0 < a) : wrap64 ((a : Int) - 1) = ((a - 1 : Nat) : Int) := by rw [wrap_id (by omega) (by omega)]; omega

/-- Lists of rows of natural numbers as Go's. -/
def upM (m : List (List Nat)) : List (List Int) := m.map Poly.up
def dnM (m : List (List Int)) : List (List Nat) := m.map fun r => r.map Int.toNat
theorem upM_length (m : List (List Nat)) : (upM m).length = m.length := by simp [upM]
theorem upM_snoc (m : List (List Nat)) (r : List Nat) : upM m ++ [Poly.up r] = upM (m ++ [r]) := by simp [upM]
theorem upM_append (l m : List (List Nat)) : upM l ++ upM m = upM (l ++ m) := by simp [upM]
theorem upM_set (m : List (List Nat)) (i : Nat) (r : List Nat) : (upM m).set i (Poly.up r) = upM (m.set i r) := by simp [upM, List.map_set]
theorem upM_nil : ([] : List (List Int)) = upM [] := rfl
theorem upM_getD (m : List (List Nat)) (i : Nat) : (upM m).getD i [] = Poly.up (m.getD i []) := by
  unfold upM
  rw [List.getD_eq_getElem?_getD, List.getElem?_map, List.getD_eq_getElem?_getD]
  cases m[i]? <;> rfl
theorem rdL_up (m : List (List Nat)) (i : Nat) : rd_L2 (upM m) (i : Int) = Poly.up (m.getD i []) := by
  unfold rd_L2
  rw [Int.toNat_natCast]
  exact upM_getD m i
theorem rdL_up0 (m : List (List Nat)) : rd_L2 (upM m) 0 = Poly.up (m.getD 0 []) := rdL_up m 0
theorem dn_up (l : List Nat) : (Poly.up l).map Int.toNat = l := by
  unfold Poly.up
  rw [List.map_map]
  exact (List.map_congr_left (fun x _ => Int.toNat_natCast x)).trans (List.map_id' l)
theorem dnM_upM (m : List (List Nat)) : dnM (upM m) = m := by
  unfold dnM upM
  rw [List.map_map]
  exact (List.map_congr_left (fun x _ => dn_up x)).trans (List.map_id' m)
theorem upM_inj {l m : List (List Nat)} (h : upM l = upM m) : l = m := by rw [← dnM_upM l, h, dnM_upM]
/-- Rows of c elements. -/
def areR (c : Nat) (m : List (List Int)) : Bool := m.all fun r => decide (r.length = c) && r.all isB
theorem areR_up {c : Nat} : ∀ {m : List (List Int)}, areR c m = true → ∃ n, m = upM n ∧ Mat.MB' c n
  | [], _ => ⟨[], rfl, fun r hr => by cases hr⟩
  | r :: m, h => by
    simp only [areR, List.all_cons, Bool.and_eq_true, decide_eq_true_eq] at h
    obtain ⟨n, rfl, hn⟩ := areR_up (m := m) (by simpa [areR] using h.2)
    obtain ⟨q, rfl, hq⟩ := allB_up h.1.2
    refine ⟨q :: n, rfl, fun x hx => ?_⟩
    rcases List.mem_cons.1 hx with rfl | hx
    · exact ⟨by simpa [Poly.up_length] using h.1.1, hq⟩
    · exact hn x hx
theorem up_areR {c : Nat} {n : List (List Nat)} (h : Mat.MB' c n) : areR c (upM n) = true := by
  unfold areR upM
  rw [List.all_eq_true]
  intro x hx
  obtain ⟨r, hr, rfl⟩ := List.mem_map.1 hx
  rw [Bool.and_eq_true, decide_eq_true_eq, Poly.up_length]
  exact ⟨(h r hr).1, up_allB (h r hr).2⟩
def goodM (m : List (List Int)) : Bool := decide (1 ≤ m.length ∧ m.length ≤ 8) && (decide (1 ≤ (m.getD 0 []).length ∧ (m.getD 0 []).length ≤ 8) && areR (m.getD 0 []).length m)
theorem goodM_up {m : List (List Int)} (h : goodM m = true) : ∃ c n, m = upM n ∧ Mat.MB' c n ∧ (m.getD 0 []).length = c ∧ m.length = n.length ∧ 1 ≤ n.length ∧ n.length ≤ 8 ∧ 1 ≤ c ∧ c ≤ 8 := by
  simp only [goodM, Bool.and_eq_true, decide_eq_true_eq] at h
  obtain ⟨n, hn, hB⟩ := areR_up h.2.2
  exact ⟨_, n, hn, hB, rfl, by rw [hn, upM_length], by rw [← upM_length, ← hn]; exact h.1.1, by rw [← upM_length, ← hn]; exact h.1.2, h.2.1.1, h.2.1.2⟩
theorem up_goodM {c : Nat} {n : List (List Nat)} (h : Mat.MB' c n) (h1 : 1 ≤ n.length) (h2 : n.length ≤ 8) (h3 : 1 ≤ c) (h4 : c ≤ 8) : goodM (upM n) = true := by
  have e : ((upM n).getD 0 []).length = c := by rw [upM_getD, Poly.up_length]; exact (h.get (by omega)).1
  unfold goodM
  rw [e, up_areR h, upM_length, decide_eq_true (by omega), decide_eq_true (by omega)]; rfl
theorem goodM_rows {m : List (List Int)} (h : goodM m = true) : m.length ≤ 8 ∧ ∀ r ∈ m, r.length ≤ 8 := by
  obtain ⟨c, n, rfl, hB, _, _, _, h2, _, h4⟩ := goodM_up h
  refine ⟨by rw [upM_length]; exact h2, fun r hr => ?_⟩
  obtain ⟨q, hq, rfl⟩ := List.mem_map.1 hr
  rw [Poly.up_length, (hB q hq).1]; exact h4
theorem upM_small {c k : Nat} {n : List (List Nat)} (h : Mat.MB' c n) (hl : n.length ≤ k) (hc : c ≤ k) : (upM n).length ≤ k ∧ ∀ r ∈ upM n, r.length ≤ k := by
  refine ⟨by rw [upM_length]; exact hl, fun r hr => ?_⟩
  obtain ⟨q, hq, rfl⟩ := List.mem_map.1 hr
  rw [Poly.up_length, (h q hq).1]; exact hc

theorem impl_GoodMatrix_eq (m : List (List Int)) : impl_GoodMatrix.f m = some (goodM m) := by
  unfold impl_GoodMatrix.f goodM areR
  have e : impl_areGf.bad = fun n => !isB n := by
    funext n
    simp only [impl_areGf.bad, isB]
  have e2 : impl_GoodMatrix.bad m = fun r => !(decide (r.length = (m.getD 0 []).length) && r.all isB) := by
    funext r
    unfold impl_GoodMatrix.bad
    rw [e, List.all_eq_not_any_not]
  rw [e2, List.all_eq_not_any_not]



theorem impl_mul_l0 : ∀ (n a b o : Nat), a < 256 → o < 256 → b < 2 ^ n → b < 2 ^ 63 → Ev (fun k => impl_mul.l0 k (a : Int) (b : Int) (o : Int)) ((Gf.gmA n a b o : Nat) : Int) := by
  have stop : ∀ a o : Nat, Ev (fun k => impl_mul.l0 k (a : Int) ((0 : Nat) : Int) (o : Int)) ((o : Nat) : Int) := fun a o =>
    Ev.step (f := fun _ => some ((o : Nat) : Int)) (fun k => by simp only [impl_mul.l0]; rw [if_neg (by omega)]) (Ev.now _)
  intro n
  induction n with
  | zero =>
    intro a b o ha ho hb _
    obtain rfl : b = 0 := by simpa using hb
    exact stop a o
  | succ n ih =>
    intro a b o ha ho hb hb63
    by_cases h0 : b = 0
    · subst h0
      rw [Gf.gmA_zero]
      exact stop a o
    · have e1 : wrap64 ((a : Int) * 2) = ((a * 2 : Nat) : Int) := by rw [wrap_id (by omega) (by omega)]; omega
      have e2 : Go.bits .xor .i64 ((a * 2 : Nat) : Int) 285 = (((a * 2) ^^^ 285 : Nat) : Int) := xor_nat (a := a * 2) (b := 285) (by omega) (by decide)
      have e3 : Go.bits .xor .i64 (o : Int) (a : Int) = ((o ^^^ a : Nat) : Int) := xor_nat (by omega) (by omega)
      have e4 := and_one (a := b) hb63
      refine Ev.step (f := fun k => impl_mul.l0 k ((Gf.xt a : Nat) : Int) ((b / 2 : Nat) : Int) (((if b % 2 = 1 then o ^^^ a else o) : Nat) : Int)) (fun k => ?_) (ih _ _ _ (Gf.xt_lt a ha) ?_ (by rw [Nat.pow_succ] at hb; omega) (by omega))
      · simp only [impl_mul.l0, e1, e2, e3, e4, half_nat, Gf.xt]
        rw [if_pos (show (b : Int) > 0 by omega)]
        by_cases h1 : b % 2 = 1 <;> by_cases h2 : 255 < a * 2
        · rw [if_pos (show ((b % 2 : Nat) : Int) = 1 by omega), if_pos h1, if_pos (by omega), if_pos h2]
        · rw [if_pos (show ((b % 2 : Nat) : Int) = 1 by omega), if_pos h1, if_neg (by omega), if_neg h2]
        · rw [if_neg (show ¬ ((b % 2 : Nat) : Int) = 1 by omega), if_neg h1, if_pos (by omega), if_pos h2]
        · rw [if_neg (show ¬ ((b % 2 : Nat) : Int) = 1 by omega), if_neg h1, if_neg (by omega), if_neg h2]
      · split
        · exact Gf.xor_byte ho ha
        · exact ho
theorem impl_mul_ev (a b : Nat) (ha : a < 256) (hb : b < 256) : Ev (fun k => impl_mul.f k (a : Int) (b : Int)) ((Gf.gm a b : Nat) : Int) :=
  impl_mul_l0 8 a b 0 ha (by decide) hb (by omega)

theorem impl_pow_l0 : ∀ (f a n o : Nat), a < 256 → o < 256 → n < 2 ^ f → n < 2 ^ 63 → Ev (fun k => impl_pow.l0 k (a : Int) (n : Int) (o : Int)) ((Gf.pwA f a n o : Nat) : Int) := by
  have stop : ∀ a o : Nat, Ev (fun k => impl_pow.l0 k (a : Int) ((0 : Nat) : Int) (o : Int)) ((o : Nat) : Int) := fun a o =>
    Ev.step (f := fun _ => some ((o : Nat) : Int)) (fun k => by simp only [impl_pow.l0]; rw [if_neg (by omega)]) (Ev.now _)
  have z : ∀ f a o, Gf.pwA f a 0 o = o := by
    intro f
    induction f with
    | zero => intro a o; rfl
    | succ f ih => intro a o; exact ih _ _
  intro f
  induction f with
  | zero =>
    intro a n o ha ho hn _
    obtain rfl : n = 0 := by simpa using hn
    exact stop a o
  | succ f ih =>
    intro a n o ha ho hn hn63
    by_cases h0 : n = 0
    · subst h0
      rw [z]
      exact stop a o
    · have e4 := and_one (a := n) hn63
      have hsq := Gf.gm_lt a ha
      by_cases h1 : n % 2 = 1
      · refine Ev.step (f := fun k => (impl_mul.f k (o : Int) (a : Int)).bind fun t => (impl_mul.f k (a : Int) (a : Int)).bind fun u => impl_pow.l0 k u ((n / 2 : Nat) : Int) t) (fun k => ?_) ?_
        · simp only [impl_pow.l0, e4, half_nat]
          rw [if_pos (show (n : Int) > 0 by omega), if_pos (show ((n % 2 : Nat) : Int) = 1 by omega)]
        · have := ih (Gf.gm a a) (n / 2) (Gf.gm o a) hsq (Gf.gm_lt a ho) (by rw [Nat.pow_succ] at hn; omega) (by omega)
          show Ev _ ((Gf.pwA f (Gf.gm a a) (n / 2) (if n % 2 = 1 then Gf.gm o a else o) : Nat) : Int)
          rw [if_pos h1]
          exact Ev.bind (f := fun k t => (impl_mul.f k (a : Int) (a : Int)).bind fun u => impl_pow.l0 k u ((n / 2 : Nat) : Int) t) (impl_mul_ev o a ho ha) (Ev.bind (f := fun k u => impl_pow.l0 k u ((n / 2 : Nat) : Int) ((Gf.gm o a : Nat) : Int)) (impl_mul_ev a a ha ha) this)
      · refine Ev.step (f := fun k => (impl_mul.f k (a : Int) (a : Int)).bind fun u => impl_pow.l0 k u ((n / 2 : Nat) : Int) (o : Int)) (fun k => ?_) ?_
        · simp only [impl_pow.l0, e4, half_nat]
          rw [if_pos (show (n : Int) > 0 by omega), if_neg (show ¬ ((n % 2 : Nat) : Int) = 1 by omega)]
        · have := ih (Gf.gm a a) (n / 2) o hsq ho (by rw [Nat.pow_succ] at hn; omega) (by omega)
          show Ev _ ((Gf.pwA f (Gf.gm a a) (n / 2) (if n % 2 = 1 then Gf.gm o a else o) : Nat) : Int)
          rw [if_neg h1]
          exact Ev.bind (f := fun k u => impl_pow.l0 k u ((n / 2 : Nat) : Int) (o : Int)) (impl_mul_ev a a ha ha) this
theorem impl_pow_ev (a n : Nat) (ha : a < 256) (hn : n < 2 ^ 62) : Ev (fun k => impl_pow.f k (a : Int) (n : Int)) ((Gf.pw a n : Nat) : Int) := by
  have := impl_pow_l0 62 a n 1 ha (by decide) hn (by omega)
  rw [Gf.pwA_eq 62 a n 1 ha (by decide) hn, Gf.one_gm _ (Gf.pw_lt n)] at this
  exact this

theorem impl_inverse_ev (b : Nat) (hb : b < 256) : Ev (fun k => impl_inverse.f k (b : Int)) ((Gf.gi b : Nat) : Int) := by
  unfold impl_inverse.f
  exact Ev.bind (f := fun _ u => some u) (impl_pow_ev b 254 hb (by decide)) (Ev.now _)

/-- The first i rows of the unit matrix of n columns. -/
def idR (n i : Nat) : List Int := (List.replicate n (0 : Int)).set i 1
def idL (n i : Nat) : List (List Int) := (List.range i).map (idR n)
theorem idL_length (n i : Nat) : (idL n i).length = i := by simp [idL]
theorem idL_succ (n i : Nat) : idL n (i + 1) = idL n i ++ [idR n i] := by simp [idL, List.range_succ]
theorem idR_length (n i : Nat) : (idR n i).length = n := by simp [idR]
theorem idL_rows {n i : Nat} : ∀ r ∈ idL n i, r.length = n := fun r h => by
  obtain ⟨j, _, rfl⟩ := List.mem_map.1 h
  exact idR_length n j
def identV (a : Int) : List (List Int) × Bool := if 1 ≤ a ∧ a ≤ 8 then (idL a.toNat a.toNat, true) else ([], false)

theorem impl_identity_l0 (n : Nat) (hn : n ≤ 1000) : ∀ d i : Nat, i + d = n → Ev (fun k => impl_identity.l0 k (n : Int) (idL n i) (n : Int) (i : Int)) (idL n n) := by
  intro d
  induction d with
  | zero =>
    intro i hi
    obtain rfl : i = n := by omega
    exact Ev.step (f := fun _ => some (idL i i)) (fun k => by rw [impl_identity.l0.eq_2, if_neg (by omega)]) (Ev.now _)
  | succ d ih =>
    intro i hi
    refine Ev.step (f := fun k => impl_identity.l0 k (n : Int) (idL n (i + 1)) (n : Int) ((i + 1 : Nat) : Int)) (fun k => ?_) (ih (i + 1) (by omega))
    rw [impl_identity.l0.eq_2, if_pos (by omega), if_pos (by omega), if_pos (by omega)]
    simp only [Option.bind_some, Int.toNat_natCast]
    rw [if_pos (by omega), if_pos (by rw [List.length_replicate]; omega), if_pos (by rw [idL_length]; omega), wrap_succ i (by omega), idL_succ]
    rfl
theorem impl_identity_ev (n : Nat) (hn : n ≤ 1000) : Ev (fun k => impl_identity.f k (n : Int)) (idL n n) := impl_identity_l0 n hn n 0 (by omega)

theorem bes_snoc {m s : List (List Nat)} (h : m.length = s.length) {i : Nat} (hi : i < m.length) : upM ((Mat.bes m s).take i) ++ [Poly.up (m.getD i []) ++ Poly.up (s.getD i [])] = upM ((Mat.bes m s).take (i + 1)) := by
  have hb := Mat.bes_at h i
  have hlt : i < (Mat.bes m s).length := by rw [Mat.bes_length h]; exact hi
  rw [List.getD_eq_getElem?_getD, List.getElem?_eq_getElem hlt, Option.getD_some] at hb
  rw [List.take_succ_eq_append_getElem hlt, hb, ← upM_snoc]
  congr 2
  unfold Poly.up
  rw [List.map_append]
theorem impl_beside_l0 (m s : List (List Nat)) (hl : m.length = s.length) (hm : m.length ≤ 1000) (hr : ∀ i, (m.getD i []).length ≤ 1000) (hs : ∀ i, (s.getD i []).length ≤ 1000) : ∀ d i : Nat, i + d = m.length → Ev (fun k => impl_beside.l0 k (upM s) (upM ((Mat.bes m s).take i)) (upM m) ((upM m).length : Int) (i : Int)) (upM (Mat.bes m s)) := by
  intro d
  induction d with
  | zero =>
    intro i hi
    obtain rfl : i = m.length := by omega
    have e : (Mat.bes m s).take m.length = Mat.bes m s := by rw [← Mat.bes_length hl, List.take_length]
    rw [e]
    exact Ev.step (f := fun _ => some (upM (Mat.bes m s))) (fun k => by rw [impl_beside.l0.eq_2, if_neg (by rw [upM_length]; omega)]) (Ev.now _)
  | succ d ih =>
    intro i hi
    have h1 := hr i
    have h2 := hs i
    have hc : slices_Clone_int_int.f (Poly.up (m.getD i [])) = some (Poly.up (m.getD i [])) := by unfold slices_Clone_int_int.f; rw [if_pos (by rw [Poly.up_length]; omega)]
    refine Ev.step (f := fun k => impl_beside.l0 k (upM s) (upM ((Mat.bes m s).take (i + 1))) (upM m) ((upM m).length : Int) ((i + 1 : Nat) : Int)) (fun k => ?_) (ih (i + 1) (by omega))
    rw [impl_beside.l0.eq_2, if_pos (by rw [upM_length]; omega), if_pos (by omega), if_pos (by rw [upM_length]; omega), rdL_up, rdL_up, hc, Option.bind_some, if_pos (by rw [upM_length]; omega), if_pos (by rw [Poly.up_length, Poly.up_length]; omega), if_pos (by rw [upM_length, List.length_take]; omega), bes_snoc hl (by omega), wrap_succ i (by omega)]
theorem impl_beside_ev (m s : List (List Nat)) (hl : m.length = s.length) (hm : m.length ≤ 1000) (hr : ∀ i, (m.getD i []).length ≤ 1000) (hs : ∀ i, (s.getD i []).length ≤ 1000) : Ev (fun k => impl_beside.f k (upM m) (upM s)) (upM (Mat.bes m s)) := impl_beside_l0 m s hl hm hr hs m.length 0 (by omega)

theorem spec_l1In_eq (a b c : Int) : spec_l1In.f a b c = some (decide (b ≤ a ∧ a ≤ c)) := by
  unfold spec_l1In.f
  by_cases h : a ≥ b
  · rw [if_pos h]; congr 1; simp [show b ≤ a from h]
  · rw [if_neg h]; congr 1; simp; omega

theorem spec_l1Gf_eq (a : Int) : spec_l1Gf.f a = some (isB a) := by
  unfold spec_l1Gf.f; rw [spec_l1In_eq]; rfl

theorem spec_l1All_l0 (l : List Int) (hl : l.length ≤ 140737488351232) : ∀ d i : Nat, i + d = l.length → Ev (fun k => spec_l1All.l0 k l (l.length : Int) (i : Int)) ((l.drop i).all isB) := by
  intro d
  induction d with
  | zero =>
    intro i hi
    obtain rfl : i = l.length := by omega
    rw [List.drop_length]
    exact Ev.step (f := fun _ => some true) (fun k => by simp only [spec_l1All.l0]; rw [if_neg (by omega)]) (Ev.now _)
  | succ d ih =>
    intro i hi
    have hlt : i < l.length := by omega
    rw [List.drop_eq_getElem_cons hlt, List.all_cons]
    cases hb : isB l[i] with
    | true =>
      refine Ev.step (f := fun k => spec_l1All.l0 k l (l.length : Int) ((i + 1 : Nat) : Int)) (fun k => ?_) (ih (i + 1) (by omega))
      simp only [spec_l1All.l0, rd_get l i hlt, wrap_up i (by omega), spec_l1Gf_eq, hb, Option.bind_some, if_true]
      rw [if_pos (by omega), if_pos (by omega), if_pos (by omega)]
    | false =>
      refine Ev.step (f := fun _ => some false) (fun k => ?_) (Ev.now _)
      simp only [spec_l1All.l0, rd_get l i hlt, wrap_up i (by omega), spec_l1Gf_eq, hb, Option.bind_some]
      rw [if_pos (by omega), if_pos (by omega), if_pos (by omega)]; rfl
theorem spec_l1All_ev (l : List Int) (hl : l.length ≤ 140737488351232) : Ev (fun k => spec_l1All.f k l) (l.all isB) := spec_l1All_l0 l hl l.length 0 (by omega)

theorem spec_GoodMatrix_l0 (m : List (List Int)) (hl : m.length ≤ 140737488351232) (hr : ∀ r ∈ m, r.length ≤ 140737488351232) : ∀ d i : Nat, i + d = m.length →
    Ev (fun k => spec_GoodMatrix.l0 k m m (m.length : Int) (i : Int)) (decide (1 ≤ m.length ∧ m.length ≤ 8) && (decide (1 ≤ (m.getD 0 []).length ∧ (m.getD 0 []).length ≤ 8) && areR (m.getD 0 []).length (m.drop i))) := by
  intro d
  induction d with
  | zero =>
    intro i hi
    obtain rfl : i = m.length := by omega
    have e0 : areR (m.getD 0 []).length (m.drop m.length) = true := by rw [List.drop_length]; rfl
    rw [e0, Bool.and_true]
    have hz : rd_L2 m 0 = m.getD 0 [] := rfl
    by_cases h1 : 1 ≤ m.length ∧ m.length ≤ 8
    · refine Ev.step (f := fun _ => some (decide (1 ≤ m.length ∧ m.length ≤ 8) && decide (1 ≤ (m.getD 0 []).length ∧ (m.getD 0 []).length ≤ 8))) (fun k => ?_) (Ev.now _)
      rw [spec_GoodMatrix.l0.eq_2, if_neg (by omega), spec_l1In_eq, Option.bind_some, decide_eq_true (by omega), if_pos rfl, if_pos (by omega), spec_l1In_eq, hz, decide_eq_true h1, Bool.true_and]
      exact congrArg some (decide_eq_decide.2 (by omega))
    · refine Ev.step (f := fun _ => some (decide (1 ≤ m.length ∧ m.length ≤ 8) && decide (1 ≤ (m.getD 0 []).length ∧ (m.getD 0 []).length ≤ 8))) (fun k => ?_) (Ev.now _)
      rw [spec_GoodMatrix.l0.eq_2, if_neg (by omega), spec_l1In_eq, Option.bind_some, decide_eq_false (by omega), if_neg (by decide), decide_eq_false h1, Bool.false_and]
  | succ d ih =>
    intro i hi
    have hlt : i < m.length := by omega
    have hz : rd_L2 m 0 = m.getD 0 [] := rfl
    have eR : areR (m.getD 0 []).length (m.drop i) = (decide (m[i].length = (m.getD 0 []).length) && m[i].all isB && areR (m.getD 0 []).length (m.drop (i + 1))) := by
      rw [List.drop_eq_getElem_cons hlt]; rfl
    rw [eR]
    have E := spec_l1All_ev m[i] (hr _ (List.getElem_mem hlt))
    by_cases h1 : m[i].length = (m.getD 0 []).length
    · refine Ev.step (f := fun k => (spec_l1All.f k m[i]).bind fun t => if t = true then spec_GoodMatrix.l0 k m m (m.length : Int) ((i + 1 : Nat) : Int) else some false) (fun k => ?_) (Ev.bind (f := fun k t => if t = true then spec_GoodMatrix.l0 k m m (m.length : Int) ((i + 1 : Nat) : Int) else some false) E ?_)
      · rw [spec_GoodMatrix.l0.eq_2, if_pos (by omega), if_pos (by omega), if_pos (by omega), if_pos (by omega), rdL_nat m i hlt, hz, if_pos (by omega), wrap_succ i (by omega)]
      · rw [decide_eq_true h1, Bool.true_and]
        cases m[i].all isB
        · rw [Bool.false_and, Bool.and_false, Bool.and_false]
          exact Ev.now _
        · rw [Bool.true_and]
          simp only [if_true]
          exact ih (i + 1) (by omega)
    · rw [decide_eq_false h1, Bool.false_and, Bool.false_and, Bool.and_false, Bool.and_false]
      refine Ev.step (f := fun _ => some false) (fun k => ?_) (Ev.now _)
      rw [spec_GoodMatrix.l0.eq_2, if_pos (by omega), if_pos (by omega), if_pos (by omega), if_pos (by omega), rdL_nat m i hlt, hz, if_neg (by omega)]
theorem spec_GoodMatrix_ev (m : List (List Int)) (hl : m.length ≤ 140737488351232) (hr : ∀ r ∈ m, r.length ≤ 140737488351232) : Ev (fun k => spec_GoodMatrix.f k m) (goodM m) := spec_GoodMatrix_l0 m hl hr m.length 0 (by omega)

theorem spec_l2Own_l0 (m : List (List Int)) (hm : m.length ≤ 1048576) (hr : ∀ r ∈ m, r.length ≤ 1048576) : ∀ (d i : Nat), i + d = m.length → Ev (fun k => spec_l2Own.l0 k (m.take i) m (m.length : Int) (i : Int)) m := by
  intro d
  induction d with
  | zero =>
    intro i hi
    obtain rfl : i = m.length := by omega
    rw [List.take_length]
    exact Ev.step (f := fun _ => some m) (fun k => by rw [spec_l2Own.l0.eq_2, if_neg (by omega)]) (Ev.now _)
  | succ d ih =>
    intro i hi
    have hlt : i < m.length := by omega
    have h1 := hr _ (List.getElem_mem hlt)
    have e : m.take i ++ [m[i]] = m.take (i + 1) := by rw [List.take_succ_eq_append_getElem hlt]
    refine Ev.step (f := fun k => spec_l2Own.l0 k (m.take (i + 1)) m (m.length : Int) ((i + 1 : Nat) : Int)) (fun k => ?_) (ih (i + 1) (by omega))
    rw [spec_l2Own.l0.eq_2, if_pos (by omega), if_pos (by omega), if_pos (by omega), Option.bind_some, rdL_nat m i hlt, List.nil_append, if_pos (by simp only [List.length_nil]; omega), if_pos (by rw [List.length_take]; omega), e, wrap_succ i (by omega)]
theorem spec_l2Own_ev (m : List (List Int)) (hm : m.length ≤ 1048576) (hr : ∀ r ∈ m, r.length ≤ 1048576) : Ev (fun k => spec_l2Own.f k m) m := spec_l2Own_l0 m hm hr m.length 0 (by omega)

theorem spec_l1Mul_l0 : ∀ (n a b o : Nat), a < 256 → o < 256 → b < 2 ^ n → b < 2 ^ 63 → Ev (fun k => spec_l1Mul.l0 k (a : Int) (b : Int) (o : Int)) ((Gf.gmA n a b o : Nat) : Int) := by
  have stop : ∀ a o : Nat, Ev (fun k => spec_l1Mul.l0 k (a : Int) ((0 : Nat) : Int) (o : Int)) ((o : Nat) : Int) := fun a o =>
    Ev.step (f := fun _ => some ((o : Nat) : Int)) (fun k => by simp only [spec_l1Mul.l0]; rw [if_neg (by omega)]) (Ev.now _)
  intro n
  induction n with
  | zero =>
    intro a b o ha ho hb _
    obtain rfl : b = 0 := by simpa using hb
    exact stop a o
  | succ n ih =>
    intro a b o ha ho hb hb63
    by_cases h0 : b = 0
    · subst h0
      rw [Gf.gmA_zero]
      exact stop a o
    · have e1 : wrap64 ((a : Int) * 2) = ((a * 2 : Nat) : Int) := by rw [wrap_id (by omega) (by omega)]; omega
      have e2 : Go.bits .xor .i64 ((a * 2 : Nat) : Int) 285 = (((a * 2) ^^^ 285 : Nat) : Int) := xor_nat (a := a * 2) (b := 285) (by omega) (by decide)
      have e3 : Go.bits .xor .i64 (o : Int) (a : Int) = ((o ^^^ a : Nat) : Int) := xor_nat (by omega) (by omega)
      have e4 := and_one (a := b) hb63
      refine Ev.step (f := fun k => spec_l1Mul.l0 k ((Gf.xt a : Nat) : Int) ((b / 2 : Nat) : Int) (((if b % 2 = 1 then o ^^^ a else o) : Nat) : Int)) (fun k => ?_) (ih _ _ _ (Gf.xt_lt a ha) ?_ (by rw [Nat.pow_succ] at hb; omega) (by omega))
      · simp only [spec_l1Mul.l0, e1, e2, e3, e4, half_nat, Gf.xt]
        rw [if_pos (show (b : Int) > 0 by omega)]
        by_cases h1 : b % 2 = 1 <;> by_cases h2 : 255 < a * 2
        · rw [if_pos (show ((b % 2 : Nat) : Int) = 1 by omega), if_pos h1, if_pos (by omega), if_pos h2]
        · rw [if_pos (show ((b % 2 : Nat) : Int) = 1 by omega), if_pos h1, if_neg (by omega), if_neg h2]
        · rw [if_neg (show ¬ ((b % 2 : Nat) : Int) = 1 by omega), if_neg h1, if_pos (by omega), if_pos h2]
        · rw [if_neg (show ¬ ((b % 2 : Nat) : Int) = 1 by omega), if_neg h1, if_neg (by omega), if_neg h2]
      · split
        · exact Gf.xor_byte ho ha
        · exact ho
theorem spec_l1Mul_ev (a b : Nat) (ha : a < 256) (hb : b < 256) : Ev (fun k => spec_l1Mul.f k (a : Int) (b : Int)) ((Gf.gm a b : Nat) : Int) :=
  spec_l1Mul_l0 8 a b 0 ha (by decide) hb (by omega)

theorem spec_l2Add_l0 (r q : List Nat) (f : Nat) (hf : f < 256) (hr : Poly.AllB r) (hq : Poly.AllB q) (hl : r.length = q.length) (hb : r.length ≤ 1000) : ∀ (d i : Nat), i + d = q.length →
    Ev (fun k => spec_l2Add.l0 k (Poly.up (Mat.raddTo f r q i)) (f : Int) (Poly.up q) (q.length : Int) (i : Int)) (Poly.up (Mat.radd f r q)) := by
  intro d
  induction d with
  | zero =>
    intro i hi
    obtain rfl : i = q.length := by omega
    rw [← hl, Mat.raddTo_all hl]
    exact Ev.step (f := fun _ => some (Poly.up (Mat.radd f r q))) (fun k => by rw [spec_l2Add.l0.eq_2, if_neg (by omega)]) (Ev.now _)
  | succ d ih =>
    intro i hi
    have hir : i < r.length := by omega
    have hqi : q.getD i 0 < 256 := Poly.AllB.get hq i
    have hx := xor_up (Poly.AllB.get hr i) (Gf.gm_lt (q.getD i 0) hf)
    have hc : Gf.gm (q.getD i 0) f = Gf.gm f (q.getD i 0) := Gf.gm_comm hqi hf
    refine Ev.step (f := fun k => (spec_l1Mul.f k ((q.getD i 0 : Nat) : Int) (f : Int)).bind fun t => spec_l2Add.l0 k ((Poly.up (Mat.raddTo f r q i)).set i (Go.bits .xor .i64 ((r.getD i 0 : Nat) : Int) t)) (f : Int) (Poly.up q) (q.length : Int) ((i + 1 : Nat) : Int)) (fun k => ?_) ?_
    · rw [spec_l2Add.l0.eq_2, if_pos (by omega), if_pos (by omega), if_pos (by rw [Poly.up_length]; omega), if_pos (by rw [Poly.up_length, Mat.raddTo_length hl]; omega), Poly.rd_up, Poly.rd_up, Mat.raddTo_at hl hir, wrap_succ i (by omega), Int.toNat_natCast]
    · refine Ev.bind (f := fun k t => spec_l2Add.l0 k ((Poly.up (Mat.raddTo f r q i)).set i (Go.bits .xor .i64 ((r.getD i 0 : Nat) : Int) t)) (f : Int) (Poly.up q) (q.length : Int) ((i + 1 : Nat) : Int)) (spec_l1Mul_ev _ _ hqi hf) ?_
      simp only [hc, hx, Poly.up_set, Mat.raddTo_succ hl hir]
      exact ih (i + 1) (by omega)
theorem spec_l2Add_ev (r q : List Nat) (f : Nat) (hf : f < 256) (hr : Poly.AllB r) (hq : Poly.AllB q) (hl : r.length = q.length) (hb : r.length ≤ 1000) : Ev (fun k => spec_l2Add.f k (Poly.up r) (Poly.up q) (f : Int)) (Poly.up (Mat.radd f r q)) := by
  unfold spec_l2Add.f
  have := spec_l2Add_l0 r q f hf hr hq hl hb q.length 0 (by omega)
  rw [Mat.raddTo_zero] at this
  rw [Poly.up_length]
  exact this

theorem spec_l1Pow_l0 : ∀ (f a n o : Nat), a < 256 → o < 256 → n < 2 ^ f → n < 2 ^ 63 → Ev (fun k => spec_l1Pow.l0 k (a : Int) (n : Int) (o : Int)) ((Gf.pwA f a n o : Nat) : Int) := by
  have stop : ∀ a o : Nat, Ev (fun k => spec_l1Pow.l0 k (a : Int) ((0 : Nat) : Int) (o : Int)) ((o : Nat) : Int) := fun a o =>
    Ev.step (f := fun _ => some ((o : Nat) : Int)) (fun k => by simp only [spec_l1Pow.l0]; rw [if_neg (by omega)]) (Ev.now _)
  have z : ∀ f a o, Gf.pwA f a 0 o = o := by
    intro f
    induction f with
    | zero => intro a o; rfl
    | succ f ih => intro a o; exact ih _ _
  intro f
  induction f with
  | zero =>
    intro a n o ha ho hn _
    obtain rfl : n = 0 := by simpa using hn
    exact stop a o
  | succ f ih =>
    intro a n o ha ho hn hn63
    by_cases h0 : n = 0
    · subst h0
      rw [z]
      exact stop a o
    · have e4 := and_one (a := n) hn63
      have hsq := Gf.gm_lt a ha
      by_cases h1 : n % 2 = 1
      · refine Ev.step (f := fun k => (spec_l1Mul.f k (o : Int) (a : Int)).bind fun t => (spec_l1Mul.f k (a : Int) (a : Int)).bind fun u => spec_l1Pow.l0 k u ((n / 2 : Nat) : Int) t) (fun k => ?_) ?_
        · simp only [spec_l1Pow.l0, e4, half_nat]
          rw [if_pos (show (n : Int) > 0 by omega), if_pos (show ((n % 2 : Nat) : Int) = 1 by omega)]
        · have := ih (Gf.gm a a) (n / 2) (Gf.gm o a) hsq (Gf.gm_lt a ho) (by rw [Nat.pow_succ] at hn; omega) (by omega)
          show Ev _ ((Gf.pwA f (Gf.gm a a) (n / 2) (if n % 2 = 1 then Gf.gm o a else o) : Nat) : Int)
          rw [if_pos h1]
          exact Ev.bind (f := fun k t => (spec_l1Mul.f k (a : Int) (a : Int)).bind fun u => spec_l1Pow.l0 k u ((n / 2 : Nat) : Int) t) (spec_l1Mul_ev o a ho ha) (Ev.bind (f := fun k u => spec_l1Pow.l0 k u ((n / 2 : Nat) : Int) ((Gf.gm o a : Nat) : Int)) (spec_l1Mul_ev a a ha ha) this)
      · refine Ev.step (f := fun k => (spec_l1Mul.f k (a : Int) (a : Int)).bind fun u => spec_l1Pow.l0 k u ((n / 2 : Nat) : Int) (o : Int)) (fun k => ?_) ?_
        · simp only [spec_l1Pow.l0, e4, half_nat]
          rw [if_pos (show (n : Int) > 0 by omega), if_neg (show ¬ ((n % 2 : Nat) : Int) = 1 by omega)]
        · have := ih (Gf.gm a a) (n / 2) o hsq ho (by rw [Nat.pow_succ] at hn; omega) (by omega)
          show Ev _ ((Gf.pwA f (Gf.gm a a) (n / 2) (if n % 2 = 1 then Gf.gm o a else o) : Nat) : Int)
          rw [if_neg h1]
          exact Ev.bind (f := fun k u => spec_l1Pow.l0 k u ((n / 2 : Nat) : Int) (o : Int)) (spec_l1Mul_ev a a ha ha) this
theorem spec_l1Pow_ev (a n : Nat) (ha : a < 256) (hn : n < 2 ^ 62) : Ev (fun k => spec_l1Pow.f k (a : Int) (n : Int)) ((Gf.pw a n : Nat) : Int) := by
  have := spec_l1Pow_l0 62 a n 1 ha (by decide) hn (by omega)
  rw [Gf.pwA_eq 62 a n 1 ha (by decide) hn, Gf.one_gm _ (Gf.pw_lt n)] at this
  exact this

theorem spec_l1Div_ev (a b : Nat) (ha : a < 256) (hb : b < 256) : Ev (fun k => spec_l1Div.f k (a : Int) (b : Int)) ((Gf.gm a (Gf.gi b) : Nat) : Int) := by
  unfold spec_l1Div.f
  refine Ev.bind (f := fun k t => (spec_l1Mul.f k (a : Int) t).bind fun u => some u) (spec_l1Pow_ev b 254 hb (by decide)) ?_
  exact Ev.bind (f := fun _ u => some u) (spec_l1Mul_ev a (Gf.gi b) ha (Gf.gi_lt b)) (Ev.now _)

theorem spec_l2Identity_l0 (n : Nat) (hn : n ≤ 1000) : ∀ d i : Nat, i + d = n → Ev (fun k => spec_l2Identity.l0 k (n : Int) (idL n i) (i : Int)) (idL n n) := by
  intro d
  induction d with
  | zero =>
    intro i hi
    obtain rfl : i = n := by omega
    exact Ev.step (f := fun _ => some (idL i i)) (fun k => by rw [spec_l2Identity.l0.eq_2, if_neg (by omega)]) (Ev.now _)
  | succ d ih =>
    intro i hi
    refine Ev.step (f := fun k => spec_l2Identity.l0 k (n : Int) (idL n (i + 1)) ((i + 1 : Nat) : Int)) (fun k => ?_) (ih (i + 1) (by omega))
    rw [spec_l2Identity.l0.eq_2, if_pos (by omega), if_pos (by omega), if_pos (by omega)]
    simp only [Option.bind_some, Int.toNat_natCast]
    rw [if_pos (by omega), if_pos (by rw [List.length_replicate]; omega), if_pos (by rw [idL_length]; omega), wrap_succ i (by omega), idL_succ]
    rfl
theorem spec_l2Identity_ev (n : Nat) (hn : n ≤ 1000) : Ev (fun k => spec_l2Identity.f k (n : Int)) (idL n n) := spec_l2Identity_l0 n hn n 0 (by omega)

theorem laws_sameInts_same (l : List Int) (hl : l.length ≤ 1000000) : Ev (fun k => laws_sameInts.f k l l) true := by
  have h : ∀ d i : Nat, i + d = l.length → Ev (fun k => laws_sameInts.l0 k l l (l.length : Int) (i : Int)) true := by
    intro d
    induction d with
    | zero =>
      intro i hi
      exact Ev.step (f := fun _ => some true) (fun k => by rw [laws_sameInts.l0.eq_2, if_neg (by omega)]) (Ev.now _)
    | succ d ih =>
      intro i hi
      refine Ev.step (f := fun k => laws_sameInts.l0 k l l (l.length : Int) ((i + 1 : Nat) : Int)) (fun k => ?_) (ih (i + 1) (by omega))
      rw [laws_sameInts.l0.eq_2, if_pos (by omega), if_pos (by omega), if_pos (by omega), if_pos (by omega), if_pos rfl, wrap_succ i (by omega)]
  unfold laws_sameInts.f
  simp only [if_pos]
  exact h l.length 0 (by omega)

theorem laws_sameLists_same (m : List (List Int)) (hl : m.length ≤ 1000000) (hr : ∀ r ∈ m, r.length ≤ 1000000) : Ev (fun k => laws_sameLists.f k m m) true := by
  have h : ∀ d i : Nat, i + d = m.length → Ev (fun k => laws_sameLists.l0 k m m (m.length : Int) (i : Int)) true := by
    intro d
    induction d with
    | zero =>
      intro i hi
      exact Ev.step (f := fun _ => some true) (fun k => by rw [laws_sameLists.l0.eq_2, if_neg (by omega)]) (Ev.now _)
    | succ d ih =>
      intro i hi
      have hlt : i < m.length := by omega
      refine Ev.step (f := fun k => (laws_sameInts.f k m[i] m[i]).bind fun t => if t = true then laws_sameLists.l0 k m m (m.length : Int) ((i + 1 : Nat) : Int) else some false) (fun k => ?_) (Ev.bind (f := fun k t => if t = true then laws_sameLists.l0 k m m (m.length : Int) ((i + 1 : Nat) : Int) else some false) (laws_sameInts_same m[i] (hr _ (List.getElem_mem hlt))) ?_)
      · rw [laws_sameLists.l0.eq_2, if_pos (by omega), if_pos (by omega), if_pos (by omega), if_pos (by omega), rdL_nat m i hlt, wrap_succ i (by omega)]
      · simp only [if_true]
        exact ih (i + 1) (by omega)
  unfold laws_sameLists.f
  simp only [if_pos]
  exact h m.length 0 (by omega)
theorem sameL_c (m : List (List Int)) (hl : m.length ≤ 1000000) (hr : ∀ r ∈ m, r.length ≤ 1000000) {A B : Option Addr} {n k : Nat} (hn : m.length ≤ n) (hk : m.length ≤ k) (w : World) (h1 : Kd.C (Kd.slice 3 (Kd.int .i64)) w A m.length m) (h2 : Kd.C (Kd.slice 3 (Kd.int .i64)) w B m.length m) :
    Calls Try.prog 26 #[.slice A m.length n, .slice B m.length k] w fun e w' => e = .returned (.bool true) ∧ Below w.heap.size w w' := by
  obtain ⟨K, hK⟩ := (laws_sameLists_same m hl hr).rounds
  exact (laws_sameLists.calls K A n m B k m true w h1 hn h2 hk hK).mono fun e w' ⟨he, hd⟩ => ⟨he, hd.below⟩

theorem impl_times_l0 (n c : Nat) (a b : List (List Nat)) (hn : n = b.length) (hn0 : 0 < n) (ha : Mat.MB' n a) (hb : Mat.MB' c b) (hal : a.length ≤ 1000) (hbl : b.length ≤ 1000) (hc : c ≤ 1000) : ∀ (d i : Nat) (out : List (List Nat)), i + d = a.length → out.length = i →
    Ev (fun k => impl_times.l0 k (upM b) (upM out) (upM a) (a.length : Int) (i : Int)) (upM (out ++ Mat.mulM c (a.drop i) b)) := by
  have hb0 : (Poly.up (b.getD 0 [])).length = c := by rw [Poly.up_length]; exact (hb.get (by omega)).1
  intro d
  induction d with
  | zero =>
    intro i out hi hol
    obtain rfl : i = a.length := by omega
    have e : out ++ Mat.mulM c (a.drop a.length) b = out := by rw [List.drop_length]; simp [Mat.mulM]
    rw [e]
    exact Ev.step (f := fun _ => some (upM out)) (fun k => by rw [impl_times.l0.eq_2, if_neg (by omega)]) (Ev.now _)
  | succ d ih =>
    intro i out hi hol
    have hlt : i < a.length := by omega
    obtain ⟨hrl, hrb⟩ := ha.get hlt
    have hdr : a.drop i = a.getD i [] :: a.drop (i + 1) := by
      rw [List.drop_eq_getElem_cons hlt, List.getD_eq_getElem?_getD, List.getElem?_eq_getElem hlt]; rfl
    have row : ∀ (e j : Nat) (acc : List Nat), j + e = n → acc.length = c → Poly.AllB acc →
        Ev (fun k => impl_times.l1 k (upM b) (upM out) (Poly.up acc) (upM a) (a.length : Int) (i : Int) (Poly.up (a.getD i [])) (n : Int) (j : Int)) (upM (out ++ Mat.mulRow.go acc ((a.getD i []).drop j) (b.drop j) :: Mat.mulM c (a.drop (i + 1)) b)) := by
      intro e
      induction e with
      | zero =>
        intro j acc hj hl hB
        obtain rfl : j = n := by omega
        rw [← hrl, List.drop_length]
        unfold Mat.mulRow.go
        refine Ev.step (f := fun k => impl_times.l0 k (upM b) (upM (out ++ [acc])) (upM a) (a.length : Int) ((i + 1 : Nat) : Int)) (fun k => ?_) ?_
        · rw [impl_times.l1.eq_2, if_neg (by omega), if_pos (by rw [upM_length]; omega), upM_snoc, wrap_succ i (by omega)]
        · have := ih (i + 1) (out ++ [acc]) (by omega) (by simp [hol])
          rwa [List.append_assoc] at this
      | succ e ihe =>
        intro j acc hj hl hB
        have hjb : j < b.length := by omega
        obtain ⟨hql, hqb⟩ := hb.get hjb
        have hf : (a.getD i []).getD j 0 < 256 := Poly.AllB.get hrb j
        have hd1 : (a.getD i []).drop j = (a.getD i []).getD j 0 :: (a.getD i []).drop (j + 1) := by
          rw [List.drop_eq_getElem_cons (by omega), List.getD_eq_getElem?_getD (l := a.getD i []), List.getElem?_eq_getElem (by omega : j < (a.getD i []).length)]; rfl
        have hd2 : b.drop j = b.getD j [] :: b.drop (j + 1) := by
          rw [List.drop_eq_getElem_cons hjb, List.getD_eq_getElem?_getD, List.getElem?_eq_getElem hjb]; rfl
        have hac : acc.length = (b.getD j []).length := by omega
        have hgo : Mat.mulRow.go acc ((a.getD i []).drop j) (b.drop j) = Mat.mulRow.go (Mat.radd ((a.getD i []).getD j 0) acc (b.getD j [])) ((a.getD i []).drop (j + 1)) (b.drop (j + 1)) := by
          rw [hd1, hd2]; rfl
        rw [hgo]
        generalize hF : (a.getD i []).getD j 0 = f at hf
        generalize hQ : b.getD j [] = q at hql hqb hac
        have cell : ∀ (u t : Nat), t + u = c → Ev (fun k => impl_times.l2 k (upM b) (upM out) (Poly.up (Mat.raddTo f acc q t)) (f : Int) (upM a) (a.length : Int) (i : Int) (Poly.up (a.getD i [])) (n : Int) (j : Int) (Poly.up q) (c : Int) (t : Int)) (upM (out ++ Mat.mulRow.go (Mat.radd f acc q) ((a.getD i []).drop (j + 1)) (b.drop (j + 1)) :: Mat.mulM c (a.drop (i + 1)) b)) := by
          intro u
          induction u with
          | zero =>
            intro t ht
            have htc : t = acc.length := by omega
            rw [htc, Mat.raddTo_all hac]
            refine Ev.step (f := fun k => impl_times.l1 k (upM b) (upM out) (Poly.up (Mat.radd f acc q)) (upM a) (a.length : Int) (i : Int) (Poly.up (a.getD i [])) (n : Int) ((j + 1 : Nat) : Int)) (fun k => ?_) (ihe (j + 1) _ (by omega) (by rw [Mat.radd_length _ hac]; exact hl) (Mat.radd_bytes hf hB))
            rw [impl_times.l2.eq_2, if_neg (by omega), wrap_succ j (by omega)]
          | succ u ihu =>
            intro t ht
            have htl : t < acc.length := by omega
            have hqt : q.getD t 0 < 256 := Poly.AllB.get hqb t
            have hx := xor_up (Poly.AllB.get hB t) (Gf.gm_lt (q.getD t 0) hf)
            refine Ev.step (f := fun k => (impl_mul.f k (f : Int) ((q.getD t 0 : Nat) : Int)).bind fun z => impl_times.l2 k (upM b) (upM out) ((Poly.up (Mat.raddTo f acc q t)).set t (Go.bits .xor .i64 ((acc.getD t 0 : Nat) : Int) z)) (f : Int) (upM a) (a.length : Int) (i : Int) (Poly.up (a.getD i [])) (n : Int) (j : Int) (Poly.up q) (c : Int) ((t + 1 : Nat) : Int)) (fun k => ?_) ?_
            · rw [impl_times.l2.eq_2, if_pos (by omega), if_pos (by omega), if_pos (by rw [Poly.up_length]; omega), if_pos (by rw [Poly.up_length, Mat.raddTo_length hac]; omega), Poly.rd_up, Poly.rd_up, Mat.raddTo_at hac htl, wrap_succ t (by omega), Int.toNat_natCast]
            · refine Ev.bind (f := fun k z => impl_times.l2 k (upM b) (upM out) ((Poly.up (Mat.raddTo f acc q t)).set t (Go.bits .xor .i64 ((acc.getD t 0 : Nat) : Int) z)) (f : Int) (upM a) (a.length : Int) (i : Int) (Poly.up (a.getD i [])) (n : Int) (j : Int) (Poly.up q) (c : Int) ((t + 1 : Nat) : Int)) (impl_mul_ev _ _ hf hqt) ?_
              simp only [hx, Poly.up_set, Mat.raddTo_succ hac htl]
              exact ihu (t + 1) (by omega)
        have h0 := cell c 0 (by omega)
        rw [Mat.raddTo_zero] at h0
        refine Ev.step (f := fun k => impl_times.l2 k (upM b) (upM out) (Poly.up acc) (f : Int) (upM a) (a.length : Int) (i : Int) (Poly.up (a.getD i [])) (n : Int) (j : Int) (Poly.up q) (c : Int) 0) (fun k => ?_) h0
        rw [impl_times.l1.eq_2, if_pos (by omega), if_pos (by omega), if_pos (by rw [Poly.up_length]; omega), if_pos (by rw [upM_length]; omega), rdL_up, Poly.rd_up, hF, hQ, Poly.up_length, hql]
    have h0 := row n 0 (List.replicate c 0) (by omega) (by simp) (Poly.AllB.zeros _)
    have e1 : out ++ Mat.mulM c (a.drop i) b = out ++ Mat.mulRow.go (List.replicate c 0) ((a.getD i []).drop 0) (b.drop 0) :: Mat.mulM c (a.drop (i + 1)) b := by rw [hdr]; rfl
    rw [e1]
    refine Ev.step (f := fun k => impl_times.l1 k (upM b) (upM out) (Poly.up (List.replicate c 0)) (upM a) (a.length : Int) (i : Int) (Poly.up (a.getD i [])) (n : Int) 0) (fun k => ?_) h0
    rw [impl_times.l0.eq_2, if_pos (by omega), if_pos (by omega), if_pos (by rw [upM_length]; omega), if_pos (by rw [upM_length]; omega), rdL_up0, hb0, if_pos (by omega), Int.toNat_natCast, if_pos (by omega), Poly.up_zeros, rdL_up, Poly.up_length, hrl]
theorem impl_times_ev (n c : Nat) (a b : List (List Nat)) (hn : n = b.length) (hn0 : 0 < n) (ha : Mat.MB' n a) (hb : Mat.MB' c b) (hal : a.length ≤ 1000) (hbl : b.length ≤ 1000) (hc : c ≤ 1000) : Ev (fun k => impl_times.f k (upM a) (upM b)) (upM (Mat.mulM c a b)) := by
  unfold impl_times.f
  rw [upM_length]
  exact impl_times_l0 n c a b hn hn0 ha hb hal hbl hc a.length 0 [] (by omega) rfl

def mulMV (a b : List (List Int)) : List (List Int) × Bool := if goodM a && goodM b && decide ((a.getD 0 []).length = b.length) then (upM (Mat.mulM (b.getD 0 []).length (dnM a) (dnM b)), true) else ([], false)
theorem mulMV_small (a b : List (List Int)) : (mulMV a b).1.length ≤ 8 ∧ ∀ r ∈ (mulMV a b).1, r.length ≤ 8 := by
  unfold mulMV
  split
  · rename_i h
    simp only [Bool.and_eq_true, decide_eq_true_eq] at h
    obtain ⟨c, m, rfl, hm, e1, e2, h1, h2, h3, h4⟩ := goodM_up h.1.1
    obtain ⟨d, n, rfl, hn, e3, e4, h5, h6, h7, h8⟩ := goodM_up h.1.2
    rw [dnM_upM, dnM_upM, e3]
    exact upM_small (Mat.mulM_MB hm hn) (by rw [Mat.mulM_length]; exact h2) h8
  · exact ⟨by simp, fun r hr => by cases hr⟩

theorem impl_MulMatrix_ev (a b : List (List Int)) (ha : a.length ≤ 1048576) (har : ∀ r ∈ a, r.length ≤ 1048576) (hb : b.length ≤ 1048576) (hbr : ∀ r ∈ b, r.length ≤ 1048576) : Ev (fun k => impl_MulMatrix.f k a b) (mulMV a b) := by
  unfold impl_MulMatrix.f mulMV
  simp only [impl_GoodMatrix_eq, Option.bind_some]
  cases g1 : goodM a
  · exact Ev.now _
  simp only [if_true, Bool.true_and]
  cases g2 : goodM b
  · exact Ev.now _
  simp only [if_true, Bool.true_and, decide_eq_true_eq]
  obtain ⟨c, m, rfl, hm, e1, e2, h1, h2, h3, h4⟩ := goodM_up g1
  obtain ⟨d, n, rfl, hn, e3, e4, h5, h6, h7, h8⟩ := goodM_up g2
  have z1 : (0 : Int) < ((m.length : Nat) : Int) := by omega
  rw [dnM_upM, dnM_upM, e3]
  rw [upM_getD] at e1
  simp only [rdL_up0, e1, upM_getD, upM_length, if_pos z1]
  by_cases hc : c = n.length
  · simp only [if_pos hc, if_pos (show (c : Int) = ((n.length : Nat) : Int) by omega)]
    exact Ev.bind (f := fun _ t => some (t, true)) (impl_times_ev c d m n hc (by omega) hm hn (by omega) (by omega) (by omega)) (Ev.now _)
  · simp only [if_neg hc, if_neg (show ¬ (c : Int) = ((n.length : Nat) : Int) by omega)]
    exact Ev.now _

theorem impl_IdentityOf_ev (a : Int) : Ev (fun k => impl_IdentityOf.f k a) (identV a) := by
  unfold impl_IdentityOf.f identV
  simp only [impl_within_eq, Option.bind_some]
  by_cases h : 1 ≤ a ∧ a ≤ 8
  · obtain ⟨n, rfl⟩ : ∃ n : Nat, a = (n : Int) := ⟨a.toNat, by omega⟩
    simp only [decide_eq_true h, if_true, if_pos h, Int.toNat_natCast]
    exact Ev.bind (f := fun _ t => some (t, true)) (impl_identity_ev n (by omega)) (Ev.now _)
  · simp only [decide_eq_false h, Bool.false_eq_true, if_false, if_neg h]
    exact Ev.now _

theorem spec_l2Mul_l0 (n c : Nat) (a b : List (List Nat)) (hn : n = b.length) (hn0 : 0 < n) (ha : Mat.MB' n a) (hb : Mat.MB' c b) (hal : a.length ≤ 1000) (hbl : b.length ≤ 1000) (hc : c ≤ 1000) : ∀ (d i : Nat) (out : List (List Nat)), i + d = a.length → out.length = i →
    Ev (fun k => spec_l2Mul.l0 k (upM b) (upM out) (upM a) (a.length : Int) (i : Int)) (upM (out ++ Mat.mulM c (a.drop i) b)) := by
  have hb0 : (Poly.up (b.getD 0 [])).length = c := by rw [Poly.up_length]; exact (hb.get (by omega)).1
  intro d
  induction d with
  | zero =>
    intro i out hi hol
    obtain rfl : i = a.length := by omega
    have e : out ++ Mat.mulM c (a.drop a.length) b = out := by rw [List.drop_length]; simp [Mat.mulM]
    rw [e]
    exact Ev.step (f := fun _ => some (upM out)) (fun k => by rw [spec_l2Mul.l0.eq_2, if_neg (by omega)]) (Ev.now _)
  | succ d ih =>
    intro i out hi hol
    have hlt : i < a.length := by omega
    obtain ⟨hrl, hrb⟩ := ha.get hlt
    have hdr : a.drop i = a.getD i [] :: a.drop (i + 1) := by
      rw [List.drop_eq_getElem_cons hlt, List.getD_eq_getElem?_getD, List.getElem?_eq_getElem hlt]; rfl
    have row : ∀ (e j : Nat) (acc : List Nat), j + e = n → acc.length = c → Poly.AllB acc →
        Ev (fun k => spec_l2Mul.l1 k (upM b) (upM out) (Poly.up acc) (upM a) (a.length : Int) (i : Int) (Poly.up (a.getD i [])) (n : Int) (j : Int)) (upM (out ++ Mat.mulRow.go acc ((a.getD i []).drop j) (b.drop j) :: Mat.mulM c (a.drop (i + 1)) b)) := by
      intro e
      induction e with
      | zero =>
        intro j acc hj hl hB
        obtain rfl : j = n := by omega
        rw [← hrl, List.drop_length]
        unfold Mat.mulRow.go
        refine Ev.step (f := fun k => spec_l2Mul.l0 k (upM b) (upM (out ++ [acc])) (upM a) (a.length : Int) ((i + 1 : Nat) : Int)) (fun k => ?_) ?_
        · rw [spec_l2Mul.l1.eq_2, if_neg (by omega), if_pos (by rw [upM_length]; omega), upM_snoc, wrap_succ i (by omega)]
        · have := ih (i + 1) (out ++ [acc]) (by omega) (by simp [hol])
          rwa [List.append_assoc] at this
      | succ e ihe =>
        intro j acc hj hl hB
        have hjb : j < b.length := by omega
        obtain ⟨hql, hqb⟩ := hb.get hjb
        have hf : (a.getD i []).getD j 0 < 256 := Poly.AllB.get hrb j
        have hd1 : (a.getD i []).drop j = (a.getD i []).getD j 0 :: (a.getD i []).drop (j + 1) := by
          rw [List.drop_eq_getElem_cons (by omega), List.getD_eq_getElem?_getD (l := a.getD i []), List.getElem?_eq_getElem (by omega : j < (a.getD i []).length)]; rfl
        have hd2 : b.drop j = b.getD j [] :: b.drop (j + 1) := by
          rw [List.drop_eq_getElem_cons hjb, List.getD_eq_getElem?_getD, List.getElem?_eq_getElem hjb]; rfl
        have hac : acc.length = (b.getD j []).length := by omega
        have hgo : Mat.mulRow.go acc ((a.getD i []).drop j) (b.drop j) = Mat.mulRow.go (Mat.radd ((a.getD i []).getD j 0) acc (b.getD j [])) ((a.getD i []).drop (j + 1)) (b.drop (j + 1)) := by
          rw [hd1, hd2]; rfl
        rw [hgo]
        generalize hF : (a.getD i []).getD j 0 = f at hf
        generalize hQ : b.getD j [] = q at hql hqb hac
        have cell : ∀ (u t : Nat), t + u = c → Ev (fun k => spec_l2Mul.l2 k (upM b) (upM out) (Poly.up (Mat.raddTo f acc q t)) (f : Int) (upM a) (a.length : Int) (i : Int) (Poly.up (a.getD i [])) (n : Int) (j : Int) (Poly.up q) (c : Int) (t : Int)) (upM (out ++ Mat.mulRow.go (Mat.radd f acc q) ((a.getD i []).drop (j + 1)) (b.drop (j + 1)) :: Mat.mulM c (a.drop (i + 1)) b)) := by
          intro u
          induction u with
          | zero =>
            intro t ht
            have htc : t = acc.length := by omega
            rw [htc, Mat.raddTo_all hac]
            refine Ev.step (f := fun k => spec_l2Mul.l1 k (upM b) (upM out) (Poly.up (Mat.radd f acc q)) (upM a) (a.length : Int) (i : Int) (Poly.up (a.getD i [])) (n : Int) ((j + 1 : Nat) : Int)) (fun k => ?_) (ihe (j + 1) _ (by omega) (by rw [Mat.radd_length _ hac]; exact hl) (Mat.radd_bytes hf hB))
            rw [spec_l2Mul.l2.eq_2, if_neg (by omega), wrap_succ j (by omega)]
          | succ u ihu =>
            intro t ht
            have htl : t < acc.length := by omega
            have hqt : q.getD t 0 < 256 := Poly.AllB.get hqb t
            have hx := xor_up (Poly.AllB.get hB t) (Gf.gm_lt (q.getD t 0) hf)
            refine Ev.step (f := fun k => (spec_l1Mul.f k (f : Int) ((q.getD t 0 : Nat) : Int)).bind fun z => spec_l2Mul.l2 k (upM b) (upM out) ((Poly.up (Mat.raddTo f acc q t)).set t (Go.bits .xor .i64 ((acc.getD t 0 : Nat) : Int) z)) (f : Int) (upM a) (a.length : Int) (i : Int) (Poly.up (a.getD i [])) (n : Int) (j : Int) (Poly.up q) (c : Int) ((t + 1 : Nat) : Int)) (fun k => ?_) ?_
            · rw [spec_l2Mul.l2.eq_2, if_pos (by omega), if_pos (by omega), if_pos (by rw [Poly.up_length]; omega), if_pos (by rw [Poly.up_length, Mat.raddTo_length hac]; omega), Poly.rd_up, Poly.rd_up, Mat.raddTo_at hac htl, wrap_succ t (by omega), Int.toNat_natCast]
            · refine Ev.bind (f := fun k z => spec_l2Mul.l2 k (upM b) (upM out) ((Poly.up (Mat.raddTo f acc q t)).set t (Go.bits .xor .i64 ((acc.getD t 0 : Nat) : Int) z)) (f : Int) (upM a) (a.length : Int) (i : Int) (Poly.up (a.getD i [])) (n : Int) (j : Int) (Poly.up q) (c : Int) ((t + 1 : Nat) : Int)) (spec_l1Mul_ev _ _ hf hqt) ?_
              simp only [hx, Poly.up_set, Mat.raddTo_succ hac htl]
              exact ihu (t + 1) (by omega)
        have h0 := cell c 0 (by omega)
        rw [Mat.raddTo_zero] at h0
        refine Ev.step (f := fun k => spec_l2Mul.l2 k (upM b) (upM out) (Poly.up acc) (f : Int) (upM a) (a.length : Int) (i : Int) (Poly.up (a.getD i [])) (n : Int) (j : Int) (Poly.up q) (c : Int) 0) (fun k => ?_) h0
        rw [spec_l2Mul.l1.eq_2, if_pos (by omega), if_pos (by omega), if_pos (by rw [Poly.up_length]; omega), if_pos (by rw [upM_length]; omega), rdL_up, Poly.rd_up, hF, hQ, Poly.up_length, hql]
    have h0 := row n 0 (List.replicate c 0) (by omega) (by simp) (Poly.AllB.zeros _)
    have e1 : out ++ Mat.mulM c (a.drop i) b = out ++ Mat.mulRow.go (List.replicate c 0) ((a.getD i []).drop 0) (b.drop 0) :: Mat.mulM c (a.drop (i + 1)) b := by rw [hdr]; rfl
    rw [e1]
    refine Ev.step (f := fun k => spec_l2Mul.l1 k (upM b) (upM out) (Poly.up (List.replicate c 0)) (upM a) (a.length : Int) (i : Int) (Poly.up (a.getD i [])) (n : Int) 0) (fun k => ?_) h0
    rw [spec_l2Mul.l0.eq_2, if_pos (by omega), if_pos (by omega), if_pos (by rw [upM_length]; omega), if_pos (by rw [upM_length]; omega), rdL_up0, hb0, if_pos (by omega), Int.toNat_natCast, if_pos (by omega), Poly.up_zeros, rdL_up, Poly.up_length, hrl]
theorem spec_l2Mul_ev (n c : Nat) (a b : List (List Nat)) (hn : n = b.length) (hn0 : 0 < n) (ha : Mat.MB' n a) (hb : Mat.MB' c b) (hal : a.length ≤ 1000) (hbl : b.length ≤ 1000) (hc : c ≤ 1000) : Ev (fun k => spec_l2Mul.f k (upM a) (upM b)) (upM (Mat.mulM c a b)) := by
  unfold spec_l2Mul.f
  rw [upM_length]
  exact spec_l2Mul_l0 n c a b hn hn0 ha hb hal hbl hc a.length 0 [] (by omega) rfl

theorem spec_MulMatrix_ev (a b : List (List Int)) (ha : a.length ≤ 1048576) (har : ∀ r ∈ a, r.length ≤ 1048576) (hb : b.length ≤ 1048576) (hbr : ∀ r ∈ b, r.length ≤ 1048576) : Ev (fun k => spec_MulMatrix.f k a b) (mulMV a b) := by
  unfold spec_MulMatrix.f mulMV
  have E1 := spec_GoodMatrix_ev a (by omega) (fun r h => by have := har r h; omega)
  have E2 := spec_GoodMatrix_ev b (by omega) (fun r h => by have := hbr r h; omega)
  refine Ev.bind E1 ?_
  cases g1 : goodM a
  · exact Ev.now _
  simp only [if_true, Bool.true_and]
  refine Ev.bind E2 ?_
  cases g2 : goodM b
  · exact Ev.now _
  simp only [if_true, Bool.true_and, decide_eq_true_eq]
  obtain ⟨c, m, rfl, hm, e1, e2, h1, h2, h3, h4⟩ := goodM_up g1
  obtain ⟨d, n, rfl, hn, e3, e4, h5, h6, h7, h8⟩ := goodM_up g2
  have z1 : (0 : Int) < ((m.length : Nat) : Int) := by omega
  rw [dnM_upM, dnM_upM, e3]
  rw [upM_getD] at e1
  simp only [rdL_up0, e1, upM_getD, upM_length, if_pos z1]
  by_cases hc : c = n.length
  · simp only [if_pos hc, if_pos (show (c : Int) = ((n.length : Nat) : Int) by omega)]
    exact Ev.bind (f := fun _ t => some (t, true)) (spec_l2Mul_ev c d m n hc (by omega) hm hn (by omega) (by omega) (by omega)) (Ev.now _)
  · simp only [if_neg hc, if_neg (show ¬ (c : Int) = ((n.length : Nat) : Int) by omega)]
    exact Ev.now _

theorem spec_DrawIdentityOf_ex {s : List Int} (hs : BY s) : ∃ v, spec_DrawIdentityOf.f s = some v := by
  obtain ⟨x, a1, d1, e1, h2, h3, h4, h5, h6⟩ := spec_l1Cur_pick_ex hs (a := 0) 0 11 (by omega) (by omega)
  unfold spec_DrawIdentityOf.f
  rw [e1, Option.bind_some]
  exact ⟨_, rfl⟩

theorem spec_IdentityOf_ev (a : Int) : Ev (fun k => spec_IdentityOf.f k a) (identV a) := by
  unfold spec_IdentityOf.f identV
  simp only [spec_l1In_eq, Option.bind_some]
  by_cases h : 1 ≤ a ∧ a ≤ 8
  · obtain ⟨n, rfl⟩ : ∃ n : Nat, a = (n : Int) := ⟨a.toNat, by omega⟩
    simp only [decide_eq_true h, if_true, if_pos h, Int.toNat_natCast]
    exact Ev.bind (f := fun _ t => some (t, true)) (spec_l2Identity_ev n (by omega)) (Ev.now _)
  · simp only [decide_eq_false h, Bool.false_eq_true, if_false, if_neg h]
    exact Ev.now _

theorem infoR : (Try.prog.info? 23).map (fun i => (i.zero, i.size, i.bytes)) = some (some (.slice none 0 0), 1, 24) := by kernel_rfl

/-- A row made since is put behind a list of rows, a cursor's block g having been turned in between. -/
theorem app_eventK {ops : Array Oper} {rest : List Oper} {o : Oper} {a : Act} {Q : Exit → Act → World → Prop} {w0 wr W : World} (base g : Nat) (ok : Nat → Prop) (hog : ∀ k, ok k → k ≠ g) (hnw : ∀ k, wr.heap.size ≤ k → ok k) (hgd : o.guard = none) (s x : Operand)
    (ho : o.op = .call { callee := .builtin .append, args := #[s, x], argTypes := #[22, 22] }) (v : Value) (m : List (List Int)) (Au : Option Addr) (cu : Nat) (row : List Int) (hs : a.eval s = v) (hx : a.eval x = .slice (some ⟨W.heap.size, 0, none⟩) 1 1)
    (hS : (Kd.slice 3 (Kd.int .i64)).S 23 wr base ok v m) (hk : KeepBut wr W g none) (hR : (Kd.int .i64).R 3 W wr.heap.size (fun _ => True) (.slice Au row.length cu) row) (HB : Below base w0 W) (hbase : base ≤ wr.heap.size) (hl : m.length ≤ 1000000)
    (h : ∀ A1 c1 w1, (Kd.slice 3 (Kd.int .i64)).S 23 w1 base ok (.slice A1 (m.length + 1) c1) (m ++ [row]) → Below base w0 w1 → W.grownBy w1 v.ownBlock → (∀ k, v.ownBlock = some k → ok k) → wpList Try.prog ops Q rest (a.put o.dst (.slice A1 (m.length + 1) c1)) w1) :
    wpList Try.prog ops Q (o :: rest) a (W.alloc (.cells #[.slice Au row.length cu] 23)) := by
  have hlt := Kd.S_lt hS
  have hnew : ∀ k, some k = (Value.slice Au row.length cu).ownBlock → wr.heap.size ≤ k := fun k hk => Kd.R_base hR k hk.symm
  have hSK := Kd.S_mono (Kd.S_keep (Kd.S_bound hS) hk (fun k h => hog k h.1)) (ok' := fun k => ok k ∧ k < wr.heap.size) (fun _ h => ⟨h.1, h.2.2.1⟩)
  refine Kd.S_append (Kd.slice 3 (Kd.int .i64)) (w0 := w0) base hgd s x 22 23 (.slice none 0 0) 24 ho Try.underlying22 infoR rfl (by decide) (by omega) v m row [.slice Au row.length cu] ok (fun k => some k = (Value.slice Au row.length cu).ownBlock) hs hx
    (Kd.M_row (Kd.R_mono (Kd.R_tight rfl (Kd.R_lower hR hbase)) (fun _ h_ => h_))) (fun k hk => ⟨hnw k (hnew k hk), fun he => by have h1 := hnew k hk; have h2 := hlt k he.symm; omega⟩) (fun k hk2 => hnw k (Nat.le_trans hk.1 hk2))
    (Kd.S_mono hSK (fun k hk => ⟨hk.1, fun he => by have h1 := hnew k he; have h2 := hk.2; omega⟩)) HB (Nat.le_trans hbase hk.1) (by omega) ?_
  intro v1 w1 h1 h2 h3 _
  obtain ⟨A1, c1, rfl⟩ := Kd.S_slice h1
  rw [show (m ++ [row]).length = m.length + 1 by simp] at h1 ⊢
  exact h A1 c1 w1 h1 h2 h3 (fun k he => by obtain ⟨f, h0, _⟩ := hS; exact h0 k he)

theorem infoJ : (Try.prog.info? 3).map (fun i => (i.zero, i.size, i.bytes)) = some (some (.int .i64 0), 1, 8) := by kernel_rfl

theorem keep_far2 {w W : World} {g : Nat} (h : KeepBut w W g none) {p : Addr} (hp : w.heap.size ≤ p.block) (u : Value) : KeepBut w (W.setCell p u) g none :=
  ⟨by rw [show (W.setCell p u).heap.size = W.heap.size by simp [World.setCell]]; exact h.1, fun i hi hne hr => (Below.heap_setCell W p u i (by omega)).trans (h.2 i hi hne hr)⟩
set_option maxHeartbeats 8000000 in
set_option maxRecDepth 100000 in
theorem l1matrix_e (g : Nat) (s : List Int) (a d : Int) (R C : Nat) (w0 w : World) (hs : BY s) (ha : 0 ≤ a) (hab : a ≤ 100000000) (hR1 : 1 ≤ R) (hR : R ≤ 20) (hC : C ≤ 20) (hI : IsS93 w0 w g s a d) (hB : Below w0.heap.size w0 w) :
    Calls Try.prog 91 #[.pointer (some ⟨g, 0, none⟩), .int .i64 R, .int .i64 C] w fun e w' => ∃ (A1 : Option Addr) (c1 : Nat) (m : List (List Int)) (vs : List Value) (a' d' : Int), e = .returned (.slice A1 R c1) ∧ m.length = R ∧ (∀ r ∈ m, r.length ≤ C) ∧
      Mx.Mx 23 3 w' w.heap.size w'.heap.size (.slice A1 R c1) m vs ∧ IsS93 w0 w' g s a' d' ∧ 0 ≤ a' ∧ a' ≤ a + 100000 ∧ Below w0.heap.size w0 w' ∧ KeepBut w w' g none := by
  have HS := Aside0.mk hs
  have HA := Aside0.mk (show 0 ≤ a ∧ a ≤ 100000000 ∧ 1 ≤ R ∧ R ≤ 20 ∧ C ≤ 20 from ⟨ha, hab, hR1, hR, hC⟩)
  have HGL := Aside0.mk hI.lt
  have HI := Aside0.mk hI
  have HB := Aside0.mk hB
  have HK := Aside0.mk (KeepBut.refl w g none)
  have HS0 := Aside0.mk (Kd.S_nil (Kd.slice 3 (Kd.int .i64)) 23 w w0.heap.size (fun k => w.heap.size ≤ k))
  clear hs ha hab hI hB hR1 hR hC
  go_enter Try.func91, Try.ntmps91
  go_wp2
  go_loopg [7, 8] R (fun gg v7 v8 wq => ∃ (k : Nat) (m : List (List Int)) (a1 d1 : Int), k ≤ R ∧ R - k ≤ gg ∧ v8 = .int .i64 k ∧ Aside0 (m.length = k ∧ (∀ r ∈ m, r.length ≤ C) ∧ 0 ≤ a1 ∧ a1 ≤ a + 100 * k) ∧ Aside0 ((Kd.slice 3 (Kd.int .i64)).S 23 wq w0.heap.size (fun k => w.heap.size ≤ k) v7 m) ∧ Aside0 (IsS93 w0 wq g s a1 d1) ∧ Aside0 (Below w0.heap.size w0 wq) ∧ Aside0 (KeepBut w wq g none))
  case atStart => exact ⟨0, [], a, d, Nat.zero_le _, by omega, rfl, ⟨rfl, fun r hr => by (cases hr), HA.out.1, by omega⟩, HS0, HI, HB, HK⟩
  case round =>
    clear HS0 HI HB HK
    obtain ⟨k, m, a1, d1, hk', hgk, rfl, HM, HSS, HI, HB, HK⟩ := hrel
    have z0 : (0 : Int) ≤ (k : Int) := by omega
    have z1 : (k : Int) ≤ 100 := by have := HA.out; omega
    obtain ⟨wo, hwo⟩ : ∃ x, x = wr := ⟨_, rfl⟩
    by_cases hlt : k < R
    · have j1 : ((k : Int) < (R : Int)) = True := eq_true (by omega)
      have j2 : (k < R) = True := eq_true hlt
      subst hwo
      have HRN := Aside0.mk (Kd.R_nil (Kd.int .i64) 3 wo w0.heap.size (fun k => wo.heap.size ≤ k))
      have HK0 := Aside0.mk (KeepBut.refl wo g none)
      have HWO := Aside0.mk (show w0.heap.size ≤ wo.heap.size ∧ g < wo.heap.size ∧ w.heap.size ≤ wo.heap.size from ⟨HB.out.size, HI.out.lt, HK.out.1⟩)
      go_wp2
      go_loopg [9, 10] C (fun gg v9 v10 wq => ∃ (j : Nat) (r : List Int) (a2 d2 : Int), j ≤ C ∧ C - j ≤ gg ∧ v10 = .int .i64 j ∧ Aside0 (r.length = j ∧ 0 ≤ a2 ∧ a2 ≤ a1 + 4 * j) ∧ Aside0 ((Kd.int .i64).R 3 wq w0.heap.size (fun k => wo.heap.size ≤ k) v9 r) ∧ Aside0 (IsS93 w0 wq g s a2 d2) ∧ Aside0 (Below w0.heap.size w0 wq) ∧ Aside0 (KeepBut wo wq g none))
      case atStart => exact ⟨0, [], a1, d1, Nat.zero_le _, by omega, rfl, ⟨rfl, HM.out.2.2.1, by omega⟩, HRN, HI, HB, HK0⟩
      case round =>
        clear HRN HK0 HB HI
        obtain ⟨j, r, a2, d2, hj', hgj, rfl, HJ, HRR, HI, HB, HKI⟩ := hrel
        have y0 : (0 : Int) ≤ (j : Int) := by omega
        have y1 : (j : Int) ≤ 100 := by have := HA.out; omega
        by_cases hjn : j < C
        · have j3 : ((j : Int) < (C : Int)) = True := eq_true (by omega)
          have j4 : (j < C) = True := eq_true hjn
          have hab2 : a2 ≤ 200000000 := by have := HJ.out; have := HM.out; have := HA.out; omega
          obtain ⟨v, a3, d3, e1, hv, h1, h2⟩ := spec_l1Cur_among_ex HS.out d2 ([0, 0, 1, 2, 3] : List Int) HJ.out.2.1 (by omega) (by decide)
          obtain ⟨x, a4, d4, e2, h3, h4, h5, h6, h7⟩ := spec_l1Cur_pick_ex HS.out d3 60 h1 (by omega)
          have hv3 : 0 ≤ v ∧ v ≤ 3 := by
            simp only [List.mem_cons, List.not_mem_nil, or_false] at hv
            rcases hv with rfl | rfl | rfl | rfl | rfl <;> decide
          obtain ⟨vn, rfl⟩ := nat_of hv3.1
          obtain ⟨xn, rfl⟩ := nat_of h3
          have hz : vn * xn ≤ 3 * 60 := Nat.mul_le_mul (by omega) (by omega)
          have hzi : ((vn * xn : Nat) : Int) = (vn : Int) * (xn : Int) := Int.natCast_mul _ _
          generalize vn * xn = z at hz hzi
          have e3 : Int.tmod (z : Int) 256 = ((z % 256 : Nat) : Int) := rfl
          have e4 : (z : Int) % 256 = ((z % 256 : Nat) : Int) := rfl
          generalize z % 256 = q at e3 e4
          have H1 := Aside0.mk e1
          have H2 := Aside0.mk e2
          have HJ2 := Aside0.mk (show r.length = j ∧ 0 ≤ a4 ∧ a4 ≤ a1 + 4 * (j + 1) ∧ j + 1 ≤ 20 from ⟨HJ.out.1, h6, by have := HJ.out; omega, by have := HA.out; omega⟩)
          obtain ⟨A8, c8, rfl⟩ := Kd.R_slice HRR.out
          have hw2 : wrap64 ((vn : Int) * (xn : Int)) = (z : Int) := by rw [← hzi]; exact wrap_in (by omega) (by omega)
          have hw1 : IntKind.i64.wrap ((vn : Int) * (xn : Int)) = (z : Int) := (i64_w _).trans hw2
          clear e1 hv h1 h2 e2 h3 h4 h5 h6 h7 hv3 hz hzi hab2 HJ
          go_wp2_with (first | ((with_reducible refine gate_dst (N := 23) rfl ?_); refine Kd.R_lit (Kd.int .i64) _ 3 ?hg (N := 23) ?hd (xs := ([0, 0, 1, 2, 3] : List Int)) (inner := [.int .i64 0, .int .i64 0, .int .i64 1, .int .i64 2, .int .i64 3]) (ok := fun _ => True) (okp := fun _ => True) ?hr ?hp (fun _ hk => hk) trivial (Below.refl _ _) (Nat.le_refl _) (by simp) ?_; (case hd => rfl); (case hg => rfl); (case hr => first | (go_simp; done) | (go_simp; rfl)); (case hp => exact (Reps.one (show Kd.M (Kd.int .i64) _ _ _ 0 [.int .i64 0] from rfl) (Reps.one (show Kd.M (Kd.int .i64) _ _ _ 0 [.int .i64 0] from rfl) (Reps.one (show Kd.M (Kd.int .i64) _ _ _ 1 [.int .i64 1] from rfl) (Reps.one (show Kd.M (Kd.int .i64) _ _ _ 2 [.int .i64 2] from rfl) (Reps.one (show Kd.M (Kd.int .i64) _ _ _ 3 [.int .i64 3] from rfl) (Reps.none _ _))))))); intro v20 w20 ho20 hb20 _ _; obtain ⟨gl, cl, el, hl0, _, _, _⟩ := Kd.R_form ho20 (by decide); subst el; have HL := Aside0.mk (Kd.R_reads' ho20); have HLG := Aside0.mk (show gl ≠ g from fun he => by have h1 := HI.out.lt; omega); have HI1 := Aside0.mk (HI.out.below hb20); have HB1 := Aside0.mk (below_step HB.out hb20); have HK1 := Aside0.mk (KeepBut.trans HKI.out (KeepBut.of_below hb20 g none) (.inl rfl)); have HR1 := Aside0.mk (Kd.R_below HRR.out hb20); clear ho20 hb20 hl0) | (go_at_call 168; refine (spec_l1Cur_among.calls g s a2 d2 (some ⟨gl, 0, none⟩) cl ([0, 0, 1, 2, 3] : List Int) (vn : Int) a3 d3 w0 _ HI1.out HB1.out HL.out.2.2 HL.out.2.1 (fun ad he _ => by injection he with he; subst he; exact HLG.out) H1.out).mono ?_; rintro e wa ⟨rfl, hi, hb, hk⟩; have HI2 := Aside0.mk hi; have HB2 := Aside0.mk hb; have HK2 := Aside0.mk (KeepBut.trans HK1.out hk (.inl rfl)); have HR2 := Aside0.mk (Kd.R_keep HR1.out hk (fun k hk he => by have := HWO.out.2.1; omega)); clear hi hb hk) | (go_at_call 90; refine (spec_l1Cur_pick.calls g s a3 d3 60 (xn : Int) a4 d4 w0 _ HI2.out HB2.out H2.out).mono ?_; rintro e wb ⟨rfl, hi, hb, hk⟩; have HI3 := Aside0.mk hi; have HB3 := Aside0.mk hb; have HK3 := Aside0.mk (KeepBut.trans HK2.out hk (.inl rfl)); have HR3 := Aside0.mk (Kd.R_keep HR2.out hk (fun k hk he => by have := HWO.out.2.1; omega)); clear hi hb hk) | ((with_reducible refine gate_builtin (b := .append) (xs := #[.tmp 21, .tmp 29]) rfl ?_); at_builtin; refine Kd.R_append (Kd.int .i64) (w0 := w0) w0.heap.size rfl (.tmp 21) (.tmp 29) 23 3 (.int .i64 0) 8 rfl Try.underlying23 infoJ rfl (by decide) (by decide) (.slice A8 r.length c8) r (q : Int) [.int .i64 (q : Int)] (fun k => wo.heap.size ≤ k) (fun _ => False) rfl rfl ?aP (fun _ hk => hk.elim) ?aF ?aO ?aB ?aS ?aL ?_; (case aP => exact rfl); (case aB => exact HB3.out); (case aF => exact (fun k hk => Nat.le_trans HK3.out.1 hk)); (case aO => exact HR3.out); (case aS => exact HB3.out.size); (case aL => clear hw1 hw2; have := HJ2.out; omega); intro v159 w12 ho hb hg hat; have HO9 := Aside0.mk ho; have HB9 := Aside0.mk hb; have HI9 := Aside0.mk (HI3.out.grown hg (fun he => by have h1 := HR3.out.1 g he.symm; have h2 := HWO.out.2.1; omega)); have HK9 := Aside0.mk (KeepBut.trans HK3.out (KeepBut.of_grown hg g) (by cases hob : (Value.slice A8 r.length c8).ownBlock with | none => exact .inl rfl | some b => exact .inr ⟨b, rfl, HR3.out.1 b hob⟩)); clear ho hb hg hat))
          clear hw1 hw2
          go_roundg (C - (j + 1))
          case measure => omega
          case rel => exact ⟨j + 1, r ++ [(q : Int)], a4, d4, by omega, by omega, by go_num, ⟨by rw [List.length_append, HJ2.out.1]; rfl, HJ2.out.2.1, by have := HJ2.out; omega⟩, HO9, HI9, HB9, HK9⟩
        · have j3 : ((j : Int) < (C : Int)) = False := eq_false (by omega)
          have j4 : (j < C) = False := eq_false hjn
          obtain ⟨A9, c9, rfl⟩ := Kd.R_slice HRR.out
          have HR9 := Aside0.mk (show (Kd.int .i64).R 3 wr wo.heap.size (fun _ => True) (.slice A9 r.length c9) r from Kd.R_mono (Mx.row_base' HRR.out (lo := wo.heap.size) (hi := wr.heap.size) (fun k hk => ⟨HRR.out.1 k hk, Kd.R_lt HRR.out k hk⟩)) (fun _ _ => trivial))
          have HML := Aside0.mk (show m.length ≤ 1000000 from by have := HM.out; have := HA.out; omega)
          go_wp2_with ((with_reducible refine gate_builtin (b := .append) (xs := #[.tmp 31, .tmp 33]) rfl ?_); at_builtin; refine app_eventK (w0 := w0) w0.heap.size g (fun k => w.heap.size ≤ k) (fun k hk he => by have := HGL.out; omega) (fun k hk => Nat.le_trans HWO.out.2.2 hk) rfl (.tmp 31) (.tmp 33) rfl _ m A9 c9 r rfl rfl HSS.out HKI.out HR9.out ?aB ?aS HML.out ?_; (case aB => exact HB.out); (case aS => exact HWO.out.1); intro A10 c10 w2 hS2 hB2 hG2 hO2; have HS2 := Aside0.mk hS2; have HB2 := Aside0.mk hB2; have HI2 := Aside0.mk (HI.out.grown hG2 (fun he => by have h1 := hO2 g he.symm; have h2 := HGL.out; omega)); have HK2 := Aside0.mk (KeepBut.trans (KeepBut.trans HK.out HKI.out (.inl rfl)) (KeepBut.of_grown hG2 g) (by cases hob : (Value.ownBlock _) with | none => exact .inl rfl | some b => exact .inr ⟨b, rfl, hO2 b hob⟩)); clear hS2 hB2 hG2 hO2)
          go_roundg (R - (k + 1))
          case measure => omega
          case rel => exact ⟨k + 1, m ++ [r], a2, d2, by omega, by omega, by go_num, ⟨by rw [List.length_append, HM.out.1]; rfl, fun x hx => by
            rcases List.mem_append.1 hx with hx | hx
            · exact HM.out.2.1 x hx
            · rw [List.mem_singleton] at hx
              subst hx
              have := HJ.out; omega, HJ.out.2.1, by have := HJ.out; have := HM.out; have := HA.out; omega⟩, HS2, HI2, HB2, HK2⟩
    · have j1 : ((k : Int) < (R : Int)) = False := eq_false (by omega)
      have j2 : (k < R) = False := eq_false hlt
      clear hwo
      have hkR : k = R := by omega
      subst hkR
      have hml := HM.out.1
      obtain ⟨A5, c5, rfl⟩ := Kd.S_slice HSS.out
      obtain ⟨vs, hMx⟩ := Mx.of_S2 (lo := w.heap.size) (hi := wr.heap.size) (Kd.S_mono (Kd.S_bound HSS.out) (ok' := fun k => w.heap.size ≤ k ∧ k < wr.heap.size) (fun k hk => ⟨hk.1, hk.2.2.1⟩)) (fun k hk => hk)
      have hm0 : 0 < m.length := by have := HA.out; omega
      obtain ⟨gm, cap, hv, _, _, _, _, _⟩ := hMx.cells hm0
      injection hv with hv1 _ hv3
      subst hv1 hv3
      rw [hml] at hMx ⊢
      have HMX := Aside0.mk hMx
      have HMM := Aside0.mk (show m.length = k ∧ (∀ r ∈ m, r.length ≤ C) ∧ 0 ≤ a1 ∧ a1 ≤ a + 3000 from ⟨hml, HM.out.2.1, HM.out.2.2.1, by have := HM.out; have := HA.out; omega⟩)
      clear hMx hm0 HSS HM hml
      go_upto_region 11 with (fail)
      go_cut [40] (fun v40 wc => ∃ (b : Bool) (a2 d2 : Int), v40 = .bool b ∧ Aside0 (b = true → 1 < k) ∧ Aside0 (0 ≤ a2 ∧ a2 ≤ a + 4000) ∧ Aside0 (Mx.Mx 23 3 wc w.heap.size wc.heap.size (.slice (some ⟨gm, 0, none⟩) k c5) m vs) ∧ Aside0 (IsS93 w0 wc g s a2 d2) ∧ Aside0 (Below w0.heap.size w0 wc) ∧ Aside0 (KeepBut w wc g none))
      case first =>
        by_cases h1k : 1 < k
        · have p1 : ((1 : Int) < (k : Int)) = True := eq_true (by omega)
          have p2 : (1 < k) = True := eq_true h1k
          obtain ⟨b, a5, d5, e5, q1, q2⟩ := spec_l1Cur_one_ex HS.out d1 6 HMM.out.2.2.1 (by have := HMM.out; have := HA.out; omega)
          have H5 := Aside0.mk e5
          have HQ := Aside0.mk (show 0 ≤ a5 ∧ a5 ≤ a + 4000 from ⟨q1, by have := HMM.out; omega⟩)
          clear e5 q1 q2
          go_wp2_with (go_at_call 115; refine (spec_l1Cur_one.calls g s a1 d1 6 b a5 d5 w0 _ HI.out HB.out H5.out).mono ?_; rintro e wa ⟨rfl, hi, hb, hk⟩; have HI2 := Aside0.mk hi; have HB2 := Aside0.mk hb; have HK2 := Aside0.mk (KeepBut.trans HK.out hk (.inl rfl)); have HM2 := Aside0.mk ((HMX.out.moved (fun k h1 h2 h3 => hk.2 k h3 (fun he => by have := HGL.out; omega) (by simp))).widen (Nat.le_refl _) hk.1); clear hi hb hk)
          go_meet
          case rel => exact ⟨b, a5, d5, rfl, ⟨fun _ => h1k⟩, HQ, HM2, HI2, HB2, HK2⟩
        · have p1 : ((1 : Int) < (k : Int)) = False := eq_false (by omega)
          have p2 : (1 < k) = False := eq_false h1k
          go_wp2
          go_meet
          case rel => exact ⟨false, a1, d1, rfl, ⟨fun h => by cases h⟩, ⟨HMM.out.2.2.1, by have := HMM.out; omega⟩, HMX, HI, HB, HK⟩
      case rest =>
        clear HMX HI HB HK
        obtain ⟨b, a2, d2, rfl, Hb, HQ, HMX, HI, HB, HK⟩ := hcut
        have HML := Aside0.mk (show m.length = k ∧ (∀ r ∈ m, r.length ≤ C) from ⟨HMM.out.1, HMM.out.2.1⟩)
        clear HMM
        go_upto_if 40 with (fail)
        go_cut [] (fun wc => ∃ (m2 : List (List Int)) (vs2 : List Value), Aside0 (m2.length = k ∧ (∀ r ∈ m2, r.length ≤ C)) ∧ Aside0 (Mx.Mx 23 3 wc w.heap.size wc.heap.size (.slice (some ⟨gm, 0, none⟩) k c5) m2 vs2) ∧ Aside0 (IsS93 w0 wc g s a2 d2) ∧ Aside0 (Below w0.heap.size w0 wc) ∧ Aside0 (KeepBut w wc g none))
        case first =>
          cases b with
          | false =>
            go_wp2
            go_meet
            exact ⟨m, vs, HML, HMX, HI, HB, HK⟩
          | true =>
            have h1k := Hb.out rfl
            have h1m : 1 < m.length := by have := HML.out.1; omega
            obtain ⟨u1, hu1⟩ := HMX.out.at_ h1m
            obtain ⟨u0, hu0⟩ := HMX.out.at_ (show 0 < m.length by omega)
            have hR1 := HMX.out.row 1 m[1] u1 (List.getElem?_eq_getElem h1m) hu1
            obtain ⟨Au, cu, rfl⟩ := Kd.R_slice hR1
            have hq1 := Kd.R_reads' hR1
            have hc1 := (HMX.out.cellg hu1).1
            have hgm := (HMX.out.cellg hu0).2.2
            have hrl : m[1].length ≤ C := HML.out.2 _ (List.getElem_mem h1m)
            generalize m[1] = row at hR1 hq1 hc1 hrl
            have HU0 := Aside0.mk hu0
            have HQ1 := Aside0.mk hq1
            have HGM := Aside0.mk hgm
            have HRL := Aside0.mk hrl
            have p1 : ((1 : Int) < (k : Int)) = True := eq_true (by omega)
            have p2 : (1 < k) = True := eq_true h1k
            have p3 : ((0 : Int) < (k : Int)) = True := eq_true (by omega)
            have p4 : (0 < k) = True := eq_true (by omega)
            obtain ⟨wo, hwo⟩ : ∃ x, x = wc := ⟨_, rfl⟩
            subst hwo
            have HBO := Aside0.mk (Below.refl wo.heap.size wo)
            clear hR1 hq1 hgm hrl hu0 hu1 h1m h1k
            go_wp2_with (first | ((with_reducible refine gate_dst (N := 42) rfl ?_); refine Kd.R_lit (Kd.int .i64) _ 3 ?hg (N := 42) ?hd (xs := ([] : List Int)) (inner := []) (ok := fun _ => True) (okp := fun _ => True) ?hr ?hp (fun _ hk => hk) trivial (Below.refl _ _) (Nat.le_refl _) (by simp) ?_; (case hd => rfl); (case hg => rfl); (case hr => first | (go_simp; done) | (go_simp; rfl)); (case hp => exact (Reps.none _ _)); intro v20 w20 ho20 hb20 _ _; have HBL0 := Aside0.mk hb20; have HSL0 := Aside0.mk ho20; have hc2 := pw_cell_below hb20 hc1; clear ho20 hb20) | ((with_reducible refine gate_builtin (b := .append) (xs := #[.tmp 42, .tmp 45]) rfl ?_); at_builtin; refine Kd.R_append_rows (Kd.int .i64) (w0 := wo) wo.heap.size rfl (.tmp 42) (.tmp 45) 23 3 (.int .i64 0) 8 rfl Try.underlying23 infoJ rfl (by decide) (by decide) v20 ([] : List Int) row _ _ _ (fun _ => True) (fun _ => False) rfl rfl ?aO ?aR (fun _ _ h => h) (fun _ h => h.elim) ?aF ?aB ?aS ?aL ?_; (case aR => exact Kd.C_below HQ1.out.2.2 HBL0.out); (case aB => exact HBL0.out); (case aF => exact (fun _ _ => trivial)); (case aO => exact HSL0.out); (case aS => exact HBL0.out.size); (case aL => have h1 := HRL.out; have h2 := HA.out; show (0 + row.length) * 8 ≤ 140737488355328; omega); intro v21 w21 ho21 hb21 hg21 hat21; rw [List.nil_append] at ho21; obtain ⟨An, cn, en⟩ := Kd.R_slice ho21; subst en; have HRW := Aside0.mk ho21; have HBW := Aside0.mk hb21; have HM2 := Aside0.mk ((HMX.out.below hb21).widen (Nat.le_refl _) hb21.size); have hk0 := (HM2.out.cellg HU0.out).1; have hf0 := (HM2.out.cellg HU0.out).2.1; clear ho21 hb21 hg21 hat21))
            go_meet
            have hk9 : k = m.length := HML.out.1.symm
            have hpl := Mx.Mx.place (g := gm) (cap := c5) (i := 0) (x' := row) (u' := .slice An row.length cn) (by have h9 := HM2.out; rw [hk9] at h9; exact h9) (by decide) (by have := HML.out; have := HA.out; omega) (Mx.row_made HRW.out HK.out.1) (fun j u hu => Mx.Mx.new HMX.out HRW.out j u hu)
            have hsz : (w21.setCell ⟨gm, 0, none⟩ (.slice An row.length cn)).heap.size = w21.heap.size := by simp [World.setCell]
            exact ⟨m.set 0 row, _, ⟨by rw [List.length_set]; exact HML.out.1, fun r hr => by
              rcases List.mem_or_eq_of_mem_set hr with hr | rfl
              · exact HML.out.2 r hr
              · exact HRL.out⟩, ⟨by rw [hsz, hk9]; exact hpl.1⟩, ⟨IsS93.far (HI.out.below HBW.out) (fun he : g = gm => by have h1 := HGM.out.1; have h2 := HGL.out; omega) _⟩, ⟨below_set (below_step HB.out HBW.out) (by have h1 := HGM.out.1; have h2 := HB.out.size; have h3 := HI.out.ge; have h4 := HGL.out; omega)⟩, ⟨keep_far2 (KeepBut.trans HK.out (KeepBut.of_below HBW.out g none) (.inl rfl)) HGM.out.1 _⟩⟩
        case rest =>
          clear HML HMX HI HB HK Hb
          obtain ⟨m2, vs2, HML, HMX, HI, HB, HK⟩ := hcut
          have p1 : ((0 : Int) < (k : Int)) = True := eq_true (by have := HA.out; omega)
          have p2 : (0 < k) = True := eq_true (by have := HA.out; omega)
          obtain ⟨b2, a5, d5, e5, q1, q2⟩ := spec_l1Cur_one_ex HS.out d2 30 HQ.out.1 (by have := HQ.out; have := HA.out; omega)
          have H5 := Aside0.mk e5
          have HQ5 := Aside0.mk (show 0 ≤ a5 ∧ a5 ≤ a + 100000 from ⟨q1, by have := HQ.out; omega⟩)
          clear e5 q1 q2 HQ
          cases b2 with
          | false =>
            go_wp2_with (go_at_call 115; refine (spec_l1Cur_one.calls g s a2 d2 30 false a5 d5 w0 _ HI.out HB.out H5.out).mono ?_; rintro e wa ⟨rfl, hi, hb, hk⟩; have HI2 := Aside0.mk hi; have HB2 := Aside0.mk hb; have HK2 := Aside0.mk (KeepBut.trans HK.out hk (.inl rfl)); have HM2 := Aside0.mk ((HMX.out.moved (fun k h1 h2 h3 => hk.2 k h3 (fun he => by have := HGL.out; omega) (by simp))).widen (Nat.le_refl _) hk.1); clear hi hb hk)
            (try simp only [Exit.inBlock, Exit.then])
            refine ⟨rfl, _, results_tmp rfl _ _ _, ?_⟩
            exact ⟨_, _, m2, vs2, a5, d5, rfl, HML.out.1, HML.out.2, HM2.out, HI2.out, HQ5.out.1, HQ5.out.2, HB2.out, HK2.out⟩
          | true =>
            go_upto_region 14 with (go_at_call 115; refine (spec_l1Cur_one.calls g s a2 d2 30 true a5 d5 w0 _ HI.out HB.out H5.out).mono ?_; rintro e wa ⟨rfl, hi, hb, hk⟩; have HI2 := Aside0.mk hi; have HB2 := Aside0.mk hb; have HK2 := Aside0.mk (KeepBut.trans HK.out hk (.inl rfl)); have HM2 := Aside0.mk ((HMX.out.moved (fun k h1 h2 h3 => hk.2 k h3 (fun he => by have := HGL.out; omega) (by simp))).widen (Nat.le_refl _) hk.1); clear hi hb hk)
            have h0m : 0 < m2.length := by have := HML.out; have := HA.out; omega
            obtain ⟨u0, hu0⟩ := HM2.out.at_ h0m
            have hR0 := HM2.out.row 0 m2[0] u0 (List.getElem?_eq_getElem h0m) hu0
            obtain ⟨Au, cu, rfl⟩ := Kd.R_slice hR0
            have hq0 := Kd.R_reads' hR0
            have hc0 := (HM2.out.cellg hu0).1
            have hf0 := (HM2.out.cellg hu0).2.1
            have hgm := (HM2.out.cellg hu0).2.2
            have hrl : m2[0].length ≤ C := HML.out.2 _ (List.getElem_mem h0m)
            have hrc : m2[0].length ≤ cu := hq0.2.1
            have hne := fun (j : Nat) (u : Value) (hj : 0 ≠ j) (hu : vs2[j]? = some u) => HM2.out.ne 0 j _ u hj hu0 hu
            generalize m2[0] = row at hR0 hq0 hc0 hrl hrc hne
            have hh : row.length / 2 ≤ row.length := Nat.div_le_self _ _
            have e1 : Int.tdiv (row.length : Int) 2 = ((row.length / 2 : Nat) : Int) := rfl
            have e2 : (row.length : Int) / 2 = ((row.length / 2 : Nat) : Int) := rfl
            have hRT := Kd.R_take (m := row.length / 2) hR0 hh
            have hrt : (row.take (row.length / 2)).length ≤ C := by rw [List.length_take]; omega
            generalize hL : row.length / 2 = h at e1 e2 hRT hrt hh
            have HRT := Aside0.mk hRT
            have HGM := Aside0.mk hgm
            have HRL := Aside0.mk hrt
            have HNE := Aside0.mk hne
            have l0 : (0 : Int) ≤ (row.length : Int) := by omega
            have l1 : (row.length : Int) ≤ 20 := by have := HA.out; omega
            have t1 : (h ≤ row.length) = True := eq_true hh
            have t2 : ((h : Int) ≤ (row.length : Int)) = True := eq_true (by omega)
            have t3 : (h ≤ cu) = True := eq_true (by omega)
            have t4 : ((h : Int) ≤ (cu : Int)) = True := eq_true (by omega)
            clear hR0 hq0 hgm hrl hu0 h0m hRT hrt hne hL hh hrc
            go_region
            have hpl := Mx.Mx.place' (g := gm) (cap := c5) (i := 0) (x' := row.take h) (u' := .slice Au h cu) (by have h9 := HM2.out; rw [← HML.out.1] at h9; exact h9) (by decide) (by have := HML.out; have := HA.out; omega) HRT.out (fun j u hj hu => by have h9 := HNE.out j u hj hu; cases Au <;> exact h9)
            have hsz : ((wa.setCell ⟨gm, 0, none⟩ (.slice Au h cu)).drew).heap.size = wa.heap.size := by simp [World.setCell, World.drew]
            have hMF : Mx.Mx 23 3 ((wa.setCell ⟨gm, 0, none⟩ (.slice Au h cu)).drew) w.heap.size ((wa.setCell ⟨gm, 0, none⟩ (.slice Au h cu)).drew).heap.size (.slice (some ⟨gm, 0, none⟩) k c5) (m2.set 0 (row.take h)) (vs2.set 0 (.slice Au h cu)) := by
              rw [hsz, ← HML.out.1]
              exact hpl.1.below (below_drew (Below.refl _ _))
            have hIF : IsS93 w0 ((wa.setCell ⟨gm, 0, none⟩ (.slice Au h cu)).drew) g s a5 d5 := (IsS93.far HI2.out (fun he : g = gm => by have h1 := HGM.out.1; have h2 := HGL.out; omega) _).drew
            have hBF : Below w0.heap.size w0 ((wa.setCell ⟨gm, 0, none⟩ (.slice Au h cu)).drew) := below_drew (below_set HB2.out (by have h1 := HGM.out.1; have h3 := HI2.out.ge; have h4 := HGL.out; omega))
            have hKF : KeepBut w ((wa.setCell ⟨gm, 0, none⟩ (.slice Au h cu)).drew) g none := keep_far2 HK2.out HGM.out.1 _
            have HFF := Aside0.mk (And.intro hMF (And.intro hIF (And.intro hBF hKF)))
            clear hpl hsz hMF hIF hBF hKF
            go_wp2
            (try simp only [Exit.inBlock, Exit.then])
            refine ⟨rfl, _, results_tmp rfl _ _ _, ?_⟩
            exact ⟨_, _, m2.set 0 (row.take h), _, a5, d5, rfl, by rw [List.length_set]; exact HML.out.1, fun r hr => by
              rcases List.mem_or_eq_of_mem_set hr with hr | rfl
              · exact HML.out.2 r hr
              · exact HRL.out, HFF.out.1, HFF.out.2.1, HQ5.out.1, HQ5.out.2, HFF.out.2.2.1, HFF.out.2.2.2⟩

set_option maxHeartbeats 8000000 in
set_option maxRecDepth 100000 in
theorem drawInv_e (A0 : Option Addr) (c0 : Nat) (l0 : List Int) (w : World) (hs : BY l0) (hr0 : (Kd.int .u8).C w A0 l0.length l0) :
    Calls Try.prog 21 #[.slice A0 l0.length c0] w fun e w' => ∃ (A1 : Option Addr) (c1 : Nat) (m : List (List Int)), e = .returned (.slice A1 m.length c1) ∧ 1 ≤ m.length ∧ m.length ≤ 20 ∧ (∀ r ∈ m, r.length ≤ 20) ∧ m.length ≤ c1 ∧ Kd.C (Kd.slice 3 (Kd.int .i64)) w' A1 m.length m ∧ Below w.heap.size w w' := by
  have hu := Try.underlying93
  obtain ⟨v, a1, d1, e1, h0, h1, h2, h3, h4⟩ := spec_l1Cur_pick_ex hs (a := 0) 0 4 (by omega) (by omega)
  obtain ⟨n, rfl⟩ := nat_of h0
  have H1 := Aside0.mk e1
  have HS := Aside0.mk hs
  have HN := Aside0.mk (show n ≤ 3 ∧ 0 ≤ a1 ∧ a1 ≤ 2 by omega)
  have hw2 : wrap64 (1 + (n : Int)) = ((n + 1 : Nat) : Int) := by rw [show (1 : Int) + n = ((n + 1 : Nat) : Int) by omega]; exact wrap_in (by omega) (by omega)
  have hw1 := (i64_w _).trans hw2
  have HR0 := Aside0.mk hr0
  have HB := Aside0.mk (Below.refl w.heap.size w)
  clear e1 h0 h1 h2 h3 h4 hr0 hs
  go_enter Try.func21, Try.ntmps21
  go_wp2_with ((with_reducible refine gate_dst (N := 7) rfl ?_); refine box_event ?hg (N := 7) ?hd (cs := #[.slice A0 l0.length c0, .int .i64 0, .int .u64 0]) (t := 93) ?hr ?_; (case hd => rfl); (case hg => rfl); (case hr => first | (go_simp; done) | (go_simp; rfl)); intro g hg w3 hbox hb; have HB1 := Aside0.mk (below_step (by repeat (first | (with_reducible first | exact HB.out | apply below_alloc | apply pw_below_drewN | apply below_drew1) | exact HB.out)) hb); have HI := Aside0.mk ((⟨_, _, hbox, by rw [hg]; exact (below_size (by repeat (first | (with_reducible first | exact HB.out | apply below_alloc | apply pw_below_drewN | apply below_drew1) | exact HB.out))), HR0.out⟩ : IsS93 w w3 g l0 0 0)); clear HB; have HB := HB1; clear HB1 hb hbox hg)
  refine (spec_l1Cur_pick.calls g l0 0 0 4 (n : Int) a1 d1 w _ HI.out HB.out H1.out).mono ?_
  rintro e wa ⟨rfl, hi, hb, _⟩
  replace HI := Aside0.mk hi
  replace HB := Aside0.mk hb
  clear hi hb
  go_wp2_with fail
  refine (l1matrix_e g l0 a1 d1 (n + 1) (n + 1) w _ HS.out (by have := HN.out; omega) (by have := HN.out; omega) (by omega) (by have := HN.out; omega) (by have := HN.out; omega) HI.out HB.out).mono ?_
  rintro e wb ⟨A1, c1, m, vs, a2, d2, rfl, hml, hmr, hM, _, _, _, hB, _⟩
  rw [← hml]
  have hC := (hml ▸ hM).C' (by decide)
  have HQ := Aside0.mk (And.intro hC.2.1 (And.intro hC.2.2 hB))
  have HM := Aside0.mk (And.intro hml hmr)
  clear hml hmr hM hB hC hw1 hw2
  go_wp2
  (try simp only [Exit.inBlock, Exit.then])
  refine ⟨rfl, _, results_tmp rfl _ _ _, ?_⟩
  exact ⟨_, _, m, rfl, by have := HM.out.1; omega, by have := HM.out.1; have := HN.out; omega, fun r hr => by have := HM.out.2 r hr; have := HN.out; omega, HQ.out.1, HQ.out.2.1, HQ.out.2.2⟩

set_option maxHeartbeats 8000000 in
set_option maxRecDepth 100000 in
theorem drawMul_e (A0 : Option Addr) (c0 : Nat) (l0 : List Int) (w : World) (hs : BY l0) (hr0 : (Kd.int .u8).C w A0 l0.length l0) :
    Calls Try.prog 30 #[.slice A0 l0.length c0] w fun e w' => ∃ (A1 : Option Addr) (c1 : Nat) (a : List (List Int)) (A2 : Option Addr) (c2 : Nat) (b : List (List Int)), e = .returned (.tuple #[.slice A1 a.length c1, .slice A2 b.length c2]) ∧ a.length ≤ 20 ∧ (∀ r ∈ a, r.length ≤ 20) ∧ b.length ≤ 20 ∧ (∀ r ∈ b, r.length ≤ 20) ∧
      a.length ≤ c1 ∧ Kd.C (Kd.slice 3 (Kd.int .i64)) w' A1 a.length a ∧ b.length ≤ c2 ∧ Kd.C (Kd.slice 3 (Kd.int .i64)) w' A2 b.length b ∧ Below w.heap.size w w' := by
  have hu := Try.underlying93
  obtain ⟨v, a1, d1, e1, h0, h1, h2, h3, h4⟩ := spec_l1Cur_pick_ex hs (a := 0) 0 4 (by omega) (by omega)
  obtain ⟨n, rfl⟩ := nat_of h0
  obtain ⟨v, a2, d2, e2, k0, k1, k2, k3, k4⟩ := spec_l1Cur_pick_ex hs d1 4 h3 (by omega)
  obtain ⟨n2, rfl⟩ := nat_of k0
  have H1 := Aside0.mk e1
  have H2 := Aside0.mk e2
  have HS := Aside0.mk hs
  obtain ⟨N, hN⟩ : ∃ N : Nat, N = n + 1 := ⟨_, rfl⟩
  obtain ⟨R, hR⟩ : ∃ R : Nat, R = n2 + 1 := ⟨_, rfl⟩
  have HN := Aside0.mk (show (1 ≤ N ∧ N ≤ 4) ∧ (1 ≤ R ∧ R ≤ 4) ∧ 0 ≤ a1 ∧ a1 ≤ 2 ∧ 0 ≤ a2 ∧ a2 ≤ 4 by omega)
  have hw2 : wrap64 (1 + (n : Int)) = (N : Int) := by rw [show (1 : Int) + n = (N : Int) by omega]; exact wrap_in (by omega) (by omega)
  have hw1 := (i64_w _).trans hw2
  have hv2 : wrap64 (1 + (n2 : Int)) = (R : Int) := by rw [show (1 : Int) + n2 = (R : Int) by omega]; exact wrap_in (by omega) (by omega)
  have hv1 := (i64_w _).trans hv2
  have HR0 := Aside0.mk hr0
  have HB := Aside0.mk (Below.refl w.heap.size w)
  clear e1 h0 h1 h2 h3 h4 e2 k0 k1 k2 k3 k4 hr0 hs hN hR
  go_enter Try.func30, Try.ntmps30
  go_wp2_with ((with_reducible refine gate_dst (N := 8) rfl ?_); refine box_event ?hg (N := 8) ?hd (cs := #[.slice A0 l0.length c0, .int .i64 0, .int .u64 0]) (t := 93) ?hr ?_; (case hd => rfl); (case hg => rfl); (case hr => first | (go_simp; done) | (go_simp; rfl)); intro g hg w3 hbox hb; have HB1 := Aside0.mk (below_step (by repeat (first | (with_reducible first | exact HB.out | apply below_alloc | apply pw_below_drewN | apply below_drew1) | exact HB.out)) hb); have HI := Aside0.mk ((⟨_, _, hbox, by rw [hg]; exact (below_size (by repeat (first | (with_reducible first | exact HB.out | apply below_alloc | apply pw_below_drewN | apply below_drew1) | exact HB.out))), HR0.out⟩ : IsS93 w w3 g l0 0 0)); clear HB; have HB := HB1; clear HB1 hb hbox hg)
  refine (spec_l1Cur_pick.calls g l0 0 0 4 (n : Int) a1 d1 w _ HI.out HB.out H1.out).mono ?_
  rintro e wa ⟨rfl, hi, hb, _⟩
  replace HI := Aside0.mk hi
  replace HB := Aside0.mk hb
  clear hi hb
  go_wp2_with fail
  refine (spec_l1Cur_pick.calls g l0 a1 d1 4 (n2 : Int) a2 d2 w _ (by first | exact HI.out | exact HI.out.drewN _) (by first | exact HB.out | exact pw_below_drewN HB.out _) H2.out).mono ?_
  rintro e wb ⟨rfl, hi, hb, _⟩
  replace HI := Aside0.mk hi
  replace HB := Aside0.mk hb
  clear hi hb
  go_wp2_with fail
  clear hw1 hw2 hv1 hv2
  refine (l1matrix_e g l0 a2 d2 R N w _ HS.out (by have := HN.out; omega) (by have := HN.out; omega) (by have := HN.out; omega) (by have := HN.out; omega) (by have := HN.out; omega) HI.out HB.out).mono ?_
  rintro e wc ⟨A1, c1, m, vs, a3, d3, rfl, hml, hmr, hM, hi, ha3, ha4, hb, _⟩
  have HG := Aside0.mk HI.out.lt
  rw [← hml]
  have HMX := Aside0.mk (hml ▸ hM)
  have HM := Aside0.mk (And.intro hml hmr)
  replace HI := Aside0.mk hi
  replace HB := Aside0.mk hb
  obtain ⟨v, a4, d4, e4, k0, k1, k2, k3, k4⟩ := spec_l1Cur_pick_ex HS.out d3 9 ha3 (by have := HN.out; omega)
  obtain ⟨n3, rfl⟩ := nat_of k0
  obtain ⟨v, a5, d5, e5, h0, h1, h2, h3, h4⟩ := spec_l1Cur_pick_ex HS.out d4 4 k3 (by have := HN.out; omega)
  obtain ⟨n4, rfl⟩ := nat_of h0
  have H4 := Aside0.mk e4
  have H5 := Aside0.mk e5
  have HN2 := Aside0.mk (show n3 ≤ 8 ∧ n4 ≤ 3 ∧ 0 ≤ a5 ∧ a5 ≤ 200000 by have := HN.out; omega)
  clear hml hmr hM hi ha3 ha4 hb e4 e5 h0 h1 h2 h3 h4 k0 k1 k2 k3 k4
  have q1 : Int.tdiv (n3 : Int) 8 = ((n3 / 8 : Nat) : Int) := rfl
  have q2 : (n3 : Int) / 8 = ((n3 / 8 : Nat) : Int) := rfl
  have hq : n3 / 8 ≤ 1 := by have := HN2.out; omega
  generalize n3 / 8 = q at q1 q2 hq
  obtain ⟨M, hM⟩ : ∃ M : Nat, M = N + q := ⟨_, rfl⟩
  obtain ⟨C, hC⟩ : ∃ C : Nat, C = n4 + 1 := ⟨_, rfl⟩
  have HN3 := Aside0.mk (show 1 ≤ M ∧ M ≤ 5 ∧ C ≤ 4 by have := HN.out; have := HN2.out; omega)
  have hw2 : wrap64 ((N : Int) + (q : Int)) = (M : Int) := by rw [show (N : Int) + (q : Int) = (M : Int) by omega]; exact wrap_in (by omega) (by have := HN.out; omega)
  have hv2 : wrap64 (1 + (n4 : Int)) = (C : Int) := by rw [show (1 : Int) + n4 = (C : Int) by omega]; exact wrap_in (by omega) (by have := HN2.out; omega)
  clear hM hC
  have hw1 := (i64_w _).trans hw2
  have hv1 := (i64_w _).trans hv2
  go_wp2_with fail
  refine (spec_l1Cur_pick.calls g l0 a3 d3 9 (n3 : Int) a4 d4 w _ (by first | exact HI.out | exact HI.out.drewN _) (by first | exact HB.out | exact pw_below_drewN HB.out _) H4.out).mono ?_
  rintro e wd ⟨rfl, hi, hb, hk⟩
  have HK1 := Aside0.mk hk
  replace HI := Aside0.mk hi
  replace HB := Aside0.mk hb
  clear hi hb hk
  go_wp2_with fail
  refine (spec_l1Cur_pick.calls g l0 a4 d4 4 (n4 : Int) a5 d5 w _ (by first | exact HI.out | exact HI.out.drewN _) (by first | exact HB.out | exact pw_below_drewN HB.out _) H5.out).mono ?_
  rintro e we ⟨rfl, hi, hb, hk⟩
  have HK2 := Aside0.mk (KeepBut.trans HK1.out hk (.inl rfl))
  replace HI := Aside0.mk hi
  replace HB := Aside0.mk hb
  clear hi hb hk
  go_wp2_with fail
  clear hw1 hw2 hv1 hv2 q1 q2
  refine (l1matrix_e g l0 a5 d5 M C w _ HS.out (by have := HN2.out; omega) (by have := HN2.out; omega) (by have := HN3.out; omega) (by have := HN3.out; omega) (by have := HN3.out; omega) HI.out HB.out).mono ?_
  rintro e wf ⟨B1, k1, m2, vs2, a6, d6, rfl, hml, hmr, hM, _, _, _, hb, hk⟩
  rw [← hml]
  have hC := (hml ▸ hM).C' (by decide)
  have hD := (HMX.out.moved (fun k h1 h2 h3 => (KeepBut.trans HK2.out hk (.inl rfl)).2 k h3 (fun he => by have := HG.out; omega) (by simp))).C' (by decide)
  have HQ := Aside0.mk (And.intro hD.2.1 (And.intro hD.2.2 (And.intro hC.2.1 (And.intro hC.2.2 hb))))
  have HM2 := Aside0.mk (And.intro hml hmr)
  clear hml hmr hM hb hC hD hk
  go_wp2
  (try simp only [Exit.inBlock, Exit.then])
  refine ⟨rfl, _, results_tmp2 rfl _ _ _, ?_⟩
  exact ⟨_, _, m, _, _, m2, rfl, by have := HM.out.1; have := HN.out; omega, fun r hr => by have := HM.out.2 r hr; have := HN.out; omega, by have := HM2.out.1; have := HN3.out; omega, fun r hr => by have := HM2.out.2 r hr; have := HN3.out; omega, HQ.out.1, HQ.out.2.1, HQ.out.2.2.1, HQ.out.2.2.2.1, HQ.out.2.2.2.2⟩

open Mat Elim Lin in
theorem ext_fn {c : Nat} {m m' : List (List Nat)} (h : Mat.MB' c m) (h' : Mat.MB' c m') (hl : m.length = m'.length) (e : ∀ i j, i < m.length → j < c → Mat.fn m i j = Mat.fn m' i j) : m = m' := by
  apply List.ext_getElem hl
  intro i h1 h2
  have e1 : m.getD i [] = m[i] := by rw [List.getD_eq_getElem?_getD, List.getElem?_eq_getElem h1]; rfl
  have e2 : m'.getD i [] = m'[i] := by rw [List.getD_eq_getElem?_getD, List.getElem?_eq_getElem h2]; rfl
  have r1 := h.get h1
  have r2 := h'.get h2
  rw [e1] at r1
  rw [e2] at r2
  apply List.ext_getElem (by rw [r1.1, r2.1])
  intro j h3 h4
  have := e i j h1 (by rw [← r1.1]; exact h3)
  unfold Mat.fn at this
  rw [e1, e2, List.getD_eq_getElem?_getD, List.getElem?_eq_getElem h3, List.getD_eq_getElem?_getD, List.getElem?_eq_getElem h4] at this
  exact this
theorem mul_inv {n : Nat} {m b : List (List Nat)} (h : Mat.MB' n m) (hn : m.length = n) (e : Mat.inv m = some b) : Mat.mulM n m b = Mat.idM n ∧ Mat.mulM n b m = Mat.idM n := by
  obtain ⟨hb, hbl⟩ := Mat.inv_MB h hn e
  have h9 := Elim.inverse_prod (A := Mat.fn m) (B := Mat.fn b) (n := n) (fun i j _ _ => Mat.fn_B h n i j (by assumption) (by assumption)) (fun i j _ _ => Mat.fn_B hb n i j (by assumption) (by assumption)) (Mat.inv_iff h hn e)
  constructor
  · refine ext_fn (Mat.mulM_MB h hb) (Mat.idM_MB n) (by rw [Mat.mulM_length, Mat.idM_length, hn]) (fun i j hi hj => ?_)
    rw [Mat.mulM_length, hn] at hi
    rw [Mat.mulM_fn h hb hbl (by rw [hn]; exact hi), h9.1 i j hi hj, Mat.idM_fn hi hj]
  · refine ext_fn (Mat.mulM_MB hb h) (Mat.idM_MB n) (by rw [Mat.mulM_length, Mat.idM_length, hbl]) (fun i j hi hj => ?_)
    rw [Mat.mulM_length, hbl] at hi
    rw [Mat.mulM_fn hb h hn (by rw [hbl]; exact hi), h9.2 i j hi hj, Mat.idM_fn hi hj]
theorem mul_K {c n : Nat} {a b : List (List Nat)} (ha : Mat.MB' n a) (hb : Mat.MB' c b) (hbl : b.length = n) {v : Nat → Nat} (hv : ∀ j, v j < 256) (hz : ∀ i, i < a.length → Lin.dot n (Mat.fn a i) (fun t => Lin.dot c (Mat.fn b t) v) = 0) : Elim.K (Mat.mulM c a b).length c (Mat.fn (Mat.mulM c a b)) v := by
  intro i hi
  rw [Mat.mulM_length] at hi
  rw [← hz i hi, ← Elim.prod_dot (n := n) (m := c) (fun t ht => Mat.fn_B ha a.length i t hi ht) (fun t j ht hj => Mat.fn_B hb n t j ht hj) hv]
  exact Lin.xs_congr fun j hj => by rw [Mat.mulM_fn ha hb hbl hi]
theorem rank_mul_right {c n : Nat} {a b : List (List Nat)} (ha : Mat.MB' n a) (hb : Mat.MB' c b) (hbl : b.length = n) : Mat.rank c (Mat.mulM c a b) ≤ Mat.rank c b := by
  refine Mat.rank_le (Mat.mulM_MB ha hb) (F := Mat.fn (Mat.sv c 0 0 b).1) (fun i j hi hj => Mat.fn_B (Mat.sv_MB c 0 0 hb) (i + 1) i j (by omega) hj) (fun v hv hz => ?_)
  have hk := Mat.rank_rows hb hv hz
  refine mul_K ha hb hbl hv (fun i hi => ?_)
  exact Lin.xs_zero fun t ht => by show Gf.gm (Mat.fn a i t) (Lin.dot c (Mat.fn b t) v) = 0; rw [hk t (by rw [hbl]; exact ht), Gf.gm_zero]
theorem rank_mul_left {c n : Nat} {a b : List (List Nat)} (ha : Mat.MB' n a) (hb : Mat.MB' c b) (hbl : b.length = n) : Mat.rank c (Mat.mulM c a b) ≤ Mat.rank n a := by
  have hS := Mat.sv_MB n 0 0 ha
  refine Mat.rank_le (Mat.mulM_MB ha hb) (F := Elim.prod n (Mat.fn (Mat.sv n 0 0 a).1) (Mat.fn b)) (fun i j hi hj => Lin.xs_lt fun t ht => Gf.gm_lt _ (Mat.fn_B hS (i + 1) i t (by omega) ht)) (fun v hv hz => ?_)
  have hu : ∀ t, Lin.dot c (Mat.fn b t) v < 256 := fun t => Lin.dot_lt v (fun j hj => Mat.fn_B hb (t + 1) t j (by omega) hj)
  have hk := Mat.rank_rows ha (v := fun t => Lin.dot c (Mat.fn b t) v) hu (fun i hi => by
    rw [← Elim.prod_dot (n := n) (m := c) (fun t ht => Mat.fn_B hS (i + 1) i t (by omega) ht) (fun t j ht hj => Mat.fn_B hb n t j ht hj) hv]
    exact hz i hi)
  exact mul_K ha hb hbl hv hk

def rankV (l : List (List Int)) : Int × Bool := if goodM l then (((Mat.rank (l.getD 0 []).length (dnM l) : Nat) : Int), true) else (0, false)

def invV (l : List (List Int)) : List (List Int) × Bool := if goodM l && decide (l.length = (l.getD 0 []).length) then (match Mat.inv (dnM l) with
  | none => ([], false)
  | some s => (upM s, true)) else ([], false)
theorem inv_MB {n : Nat} {m t : List (List Nat)} (h : Mat.MB' n m) (hn : m.length = n) (ht : Mat.inv m = some t) : Mat.MB' n t ∧ t.length = n := by
  subst hn
  unfold Mat.inv at ht
  split at ht
  · cases ht
  · injection ht with ht
    subst ht
    exact ⟨Mat.sv2_MB _ _ _ h (Mat.idM_MB m.length) (Mat.idM_length _), Mat.sv2_length _ _ _ (Mat.idM_length _)⟩
theorem invV_small (l : List (List Int)) : (invV l).1.length ≤ 8 ∧ ∀ r ∈ (invV l).1, r.length ≤ 8 := by
  unfold invV
  split
  · rename_i h
    rw [Bool.and_eq_true, decide_eq_true_eq] at h
    obtain ⟨c, m, rfl, hm, e1, e2, h1, h2, h3, h4⟩ := goodM_up h.1
    rw [dnM_upM]
    have hc : m.length = c := by have := h.2; rw [e1, upM_length] at this; exact this
    split
    · exact ⟨by simp, fun r hr => by cases hr⟩
    · rename_i t ht
      have h9 := inv_MB hm hc ht
      exact upM_small h9.1 (by omega) (by omega)
  · exact ⟨by simp, fun r hr => by cases hr⟩

theorem dotL_take : ∀ (fs v : List Nat) (j : Nat), fs.length = v.length → j < fs.length → Mat.dotL (fs.take (j + 1)) (v.take (j + 1)) = Mat.dotL (fs.take j) (v.take j) ^^^ Gf.gm (fs.getD j 0) (v.getD j 0)
  | [], _, _, _, h => by cases h
  | _ :: _, [], _, h, _ => by cases h
  | f :: fs, x :: v, 0, _, _ => by simp [Mat.dotL]
  | f :: fs, x :: v, j + 1, h, hj => by
    have ih := dotL_take fs v j (by simpa using h) (by simpa using hj)
    simp only [List.take_succ_cons, Mat.dotL, List.getD_cons_succ] at ih ⊢
    rw [ih, Nat.xor_assoc]
theorem dotL_take_lt (fs v : List Nat) (h : Poly.AllB fs) (j : Nat) : Mat.dotL (fs.take j) (v.take j) < 256 := Mat.dotL_lt _ _ (fun x hx => h x (List.mem_of_mem_take hx))
theorem colM_snoc (m : List (List Nat)) (v : List Nat) {i : Nat} (hi : i < m.length) : Poly.up (Mat.colM (m.take i) v) ++ [((Mat.dotL (m.getD i []) v : Nat) : Int)] = Poly.up (Mat.colM (m.take (i + 1)) v) := by
  unfold Mat.colM Poly.up
  rw [List.take_succ_eq_append_getElem hi, List.map_append, List.map_append, List.getD_eq_getElem?_getD, List.getElem?_eq_getElem hi]; rfl

def solveOk (l : List (List Int)) (v : List Int) : Bool := goodM l && (decide (l.length = (l.getD 0 []).length) && (decide (v.length = l.length) && v.all isB))
def solveV (l : List (List Int)) (v : List Int) : List Int × Bool := if solveOk l v then (match Mat.inv (dnM l) with
  | none => ([], false)
  | some s => (Poly.up (Mat.colM s (v.map Int.toNat)), true)) else ([], false)
theorem solveV_small (l : List (List Int)) (v : List Int) : (solveV l v).1.length ≤ 8 := by
  unfold solveV
  split
  · rename_i h
    unfold solveOk at h
    rw [Bool.and_eq_true, Bool.and_eq_true, decide_eq_true_eq] at h
    obtain ⟨c, m, rfl, hm, e1, e2, h1, h2, h3, h4⟩ := goodM_up h.1
    rw [dnM_upM]
    have hc : m.length = c := by have := h.2.1; rw [e1, upM_length] at this; exact this
    split
    · simp
    · rename_i t ht
      have h9 := inv_MB hm hc ht
      show (Poly.up (Mat.colM t _)).length ≤ 8
      rw [Poly.up_length, Mat.colM_length, h9.2]; omega
  · simp
theorem solveV_inv (l : List (List Int)) (v : List Int) : solveV l v = if (invV l).2 && (decide (v.length = l.length) && v.all isB) then (Poly.up (Mat.colM (dnM (invV l).1) (v.map Int.toNat)), true) else ([], false) := by
  unfold solveV solveOk invV
  cases goodM l <;> cases decide (l.length = (l.getD 0 []).length) <;> cases Mat.inv (dnM l) <;> simp [dnM_upM]
theorem invV_true {l : List (List Int)} (h : (invV l).2 = true) : ∃ (c : Nat) (m s : List (List Nat)), l = upM m ∧ Mat.MB' c m ∧ m.length = c ∧ 1 ≤ c ∧ c ≤ 8 ∧ Mat.inv m = some s ∧ invV l = (upM s, true) ∧ Mat.MB' c s ∧ s.length = c := by
  unfold invV at h ⊢
  split at h
  rotate_left
  · cases h
  rename_i hg
  rw [if_pos hg]
  rw [Bool.and_eq_true, decide_eq_true_eq] at hg
  obtain ⟨c, m, rfl, hm, e1, e2, h1, h2, h3, h4⟩ := goodM_up hg.1
  have hc : m.length = c := by have := hg.2; rw [e1, upM_length] at this; exact this
  rw [dnM_upM] at h ⊢
  cases hi : Mat.inv m with
  | none => rw [hi] at h; cases h
  | some s => exact ⟨c, m, s, rfl, hm, hc, h3, h4, hi, rfl, inv_MB hm hc hi⟩

theorem idL_up (n : Nat) : idL n n = upM (Mat.idM n) := by
  unfold idL idR upM Mat.idM
  rw [List.map_map]
  refine List.map_congr_left fun i _ => ?_
  show _ = Poly.up ((List.replicate n 0).set i 1)
  rw [← Poly.up_set, ← Poly.up_zeros]; rfl

theorem rank_law (l : List (List Int)) (h : (rankV l).2 = true) : goodM l = true ∧ (invV l).2 = (decide (l.length = (l.getD 0 []).length) && decide ((rankV l).1 = (l.length : Int))) := by
  cases hg : goodM l with
  | false => unfold rankV at h; rw [hg] at h; cases h
  | true =>
    refine ⟨rfl, ?_⟩
    obtain ⟨c, m, rfl, hm, e1, e2, h1, h2, h3, h4⟩ := goodM_up hg
    have hr : (rankV (upM m)).1 = ((Mat.rank c m : Nat) : Int) := by unfold rankV; rw [if_pos hg, e1, dnM_upM]
    have hle : Mat.rank c m ≤ m.length := Mat.sv_rank_le c 0 0 m (Nat.zero_le _)
    rw [hr]
    unfold invV
    rw [hg, e1, upM_length, dnM_upM]
    by_cases hc : m.length = c
    · rw [decide_eq_true hc, Bool.and_self, if_pos rfl]
      unfold Mat.inv
      rw [hc]
      by_cases hlt : Mat.rank c m < c
      · rw [if_pos hlt, decide_eq_false (by omega)]; rfl
      · rw [if_neg hlt, decide_eq_true (by omega)]; rfl
    · rw [decide_eq_false hc, Bool.and_false, if_neg (by simp)]; rfl
theorem inv_law {l : List (List Int)} (h : (invV l).2 = true) : ∃ n : Nat, l.length = n ∧ 1 ≤ n ∧ n ≤ 8 ∧ mulMV l (invV l).1 = (idL n n, true) ∧ mulMV (invV l).1 l = (idL n n, true) ∧ identV (n : Int) = (idL n n, true) := by
  obtain ⟨c, m, s, rfl, hm, hmc, h1, h8, hi, hiv, hs, hsc⟩ := invV_true h
  have hgm := up_goodM hm (by omega) (by omega) h1 h8
  have hgs := up_goodM hs (by omega) (by omega) h1 h8
  have em : ((upM m).getD 0 []).length = c := by rw [upM_getD, Poly.up_length]; exact (hm.get (by omega)).1
  have es : ((upM s).getD 0 []).length = c := by rw [upM_getD, Poly.up_length]; exact (hs.get (by omega)).1
  obtain ⟨p1, p2⟩ := mul_inv hm hmc hi
  rw [hiv]
  refine ⟨c, by rw [upM_length, hmc], h1, h8, ?_, ?_, ?_⟩
  · unfold mulMV
    rw [hgm, hgs, em, es, upM_length, hsc, decide_eq_true rfl, dnM_upM, dnM_upM, p1, ← idL_up]; rfl
  · unfold mulMV
    rw [hgm, hgs, em, es, upM_length, hmc, decide_eq_true rfl, dnM_upM, dnM_upM, p2, ← idL_up]; rfl
  · unfold identV
    rw [if_pos (by omega), Int.toNat_natCast]
theorem prod_law {a b : List (List Int)} (h : (mulMV a b).2 = true) : (rankV a).2 = true ∧ (rankV b).2 = true ∧ (rankV (mulMV a b).1).2 = true ∧ (rankV (mulMV a b).1).1 ≤ (rankV a).1 ∧ (rankV (mulMV a b).1).1 ≤ (rankV b).1 := by
  have hok : (goodM a && goodM b && decide ((a.getD 0 []).length = b.length)) = true := by
    unfold mulMV at h
    split at h
    · assumption
    · cases h
  have hv : mulMV a b = (upM (Mat.mulM (b.getD 0 []).length (dnM a) (dnM b)), true) := by unfold mulMV; rw [if_pos hok]
  simp only [Bool.and_eq_true, decide_eq_true_eq] at hok
  obtain ⟨c, m, rfl, hm, e1, e2, h1, h2, h3, h4⟩ := goodM_up hok.1.1
  obtain ⟨d, n, rfl, hn, e3, e4, h5, h6, h7, h8⟩ := goodM_up hok.1.2
  have hcn : n.length = c := by have := hok.2; rw [e1, upM_length] at this; exact this.symm
  have hp := Mat.mulM_MB hm hn
  have hpl : (Mat.mulM d m n).length = m.length := Mat.mulM_length d m n
  have hgp := up_goodM hp (by omega) (by omega) h7 h8
  have ep : ((upM (Mat.mulM d m n)).getD 0 []).length = d := by rw [upM_getD, Poly.up_length]; exact (hp.get (by omega)).1
  rw [hv, e3, dnM_upM, dnM_upM]
  have r1 : rankV (upM m) = (((Mat.rank c m : Nat) : Int), true) := by unfold rankV; rw [if_pos hok.1.1, e1, dnM_upM]
  have r2 : rankV (upM n) = (((Mat.rank d n : Nat) : Int), true) := by unfold rankV; rw [if_pos hok.1.2, e3, dnM_upM]
  have r3 : rankV (upM (Mat.mulM d m n)) = (((Mat.rank d (Mat.mulM d m n) : Nat) : Int), true) := by unfold rankV; rw [if_pos hgp, ep, dnM_upM]
  have q1 := rank_mul_left hm hn hcn
  have q2 := rank_mul_right hm hn hcn
  rw [r1, r2, r3]
  exact ⟨rfl, rfl, rfl, by show ((_ : Nat) : Int) ≤ ((_ : Nat) : Int); omega, by show ((_ : Nat) : Int) ≤ ((_ : Nat) : Int); omega⟩

theorem rank_good (l : List (List Int)) : (rankV l).2 = goodM l := by
  unfold rankV
  cases goodM l <;> rfl
theorem idL_small {n : Nat} (h : n ≤ 8) : (idL n n).length ≤ 1000000 ∧ ∀ r ∈ idL n n, r.length ≤ 1000000 := ⟨by rw [idL_length]; omega, fun r hr => by have := idL_rows r hr; omega⟩
theorem S_reads {v : Value} {m : List (List Int)} {w : World} {b : Nat} {ok : Nat → Prop} (h : Kd.S (Kd.slice 3 (Kd.int .i64)) 23 w b ok v m) : ∃ A c, v = .slice A m.length c ∧ m.length ≤ c ∧ Kd.C (Kd.slice 3 (Kd.int .i64)) w A m.length m := Kd.R_reads (Kd.S_R h)
theorem identV_le (a : Int) : (identV a).1.length ≤ 8 ∧ ∀ r ∈ (identV a).1, r.length ≤ 8 := by
  unfold identV
  split
  · refine ⟨?_, fun r hr => ?_⟩
    · show (idL a.toNat a.toNat).length ≤ 8
      rw [idL_length]; omega
    · have := idL_rows r hr
      omega
  · exact ⟨by simp, fun r hr => by cases hr⟩

/-- The numbers m, m + 1, .., n of them. -/
def marks (m n : Nat) : List Int := (List.range n).map fun j => ((m + j : Nat) : Int)
theorem marks_length (m n : Nat) : (marks m n).length = n := by simp [marks]
theorem marks_succ (m n : Nat) : marks m (n + 1) = marks m n ++ [((m + n : Nat) : Int)] := by simp [marks, List.range_succ]
theorem marks_get (m n i : Nat) (h : i < (marks m n).length) : (marks m n)[i] = ((m + i : Nat) : Int) := by simp [marks]

/-- All places numbered from a on. -/
def marksS : Nat → List (List Int) → List (List Int)
  | _, [] => []
  | a, r :: m => marks a r.length :: marksS (a + r.length) m
def tot : List (List Int) → Nat
  | [] => 0
  | r :: m => r.length + tot m
theorem marksS_length : ∀ (a : Nat) (m : List (List Int)), (marksS a m).length = m.length
  | _, [] => rfl
  | a, r :: m => by simp only [marksS, List.length_cons, marksS_length]
theorem tot_append : ∀ (l m : List (List Int)), tot (l ++ m) = tot l + tot m
  | [], m => by simp [tot]
  | r :: l, m => by simp only [List.cons_append, tot, tot_append l m]; omega
theorem tot_take (m : List (List Int)) (i : Nat) : tot (m.take i) ≤ tot m := by
  have := tot_append (m.take i) (m.drop i)
  rw [List.take_append_drop] at this; omega
theorem tot_succ (m : List (List Int)) (i : Nat) (h : i < m.length) : tot (m.take (i + 1)) = tot (m.take i) + m[i].length := by
  rw [List.take_succ_eq_append_getElem h, tot_append]
  simp [tot]
theorem marksS_append : ∀ (a : Nat) (l m : List (List Int)), marksS a (l ++ m) = marksS a l ++ marksS (a + tot l) m
  | a, [], m => by simp [marksS, tot]
  | a, r :: l, m => by simp only [List.cons_append, marksS, tot, marksS_append (a + r.length) l m, Nat.add_assoc]
theorem tot_marksS : ∀ (a : Nat) (m : List (List Int)), tot (marksS a m) = tot m
  | _, [] => rfl
  | a, r :: m => by simp only [marksS, tot, marks_length, tot_marksS]
theorem tot_le : ∀ {m : List (List Int)} {b : Nat}, (∀ r ∈ m, r.length ≤ b) → tot m ≤ m.length * b
  | [], _, _ => by simp [tot]
  | r :: m, b, h => by
    have h1 := h r List.mem_cons_self
    have h2 := tot_le (m := m) (fun x hx => h x (List.mem_cons_of_mem _ hx))
    simp only [tot, List.length_cons, Nat.succ_mul]; omega
theorem marksS_get : ∀ (a : Nat) (m : List (List Int)) (i : Nat) (h : i < m.length) (h' : i < (marksS a m).length), (marksS a m)[i] = marks (a + tot (m.take i)) m[i].length
  | a, r :: m, 0, _, _ => by simp [marksS, tot]
  | a, r :: m, i + 1, h, h' => by
    simp only [marksS, List.getElem_cons_succ, List.take_succ_cons, tot]
    rw [marksS_get (a + r.length) m i (by simpa using h)]
    rw [Nat.add_assoc]

theorem rows_len {w : World} {A : Option Addr} {n : Nat} {E : TypeId} {xs : List (List Int)} (h : Kd.C (Kd.slice E (Kd.int .i64)) w A n xs) : xs.length ≤ 9223372036854775807 ∧ ∀ r ∈ xs, r.length ≤ 9223372036854775807 := by
  have hn := h.1
  have hm := h.2.1
  refine ⟨by omega, fun r hr => ?_⟩
  obtain ⟨i, hi, rfl⟩ := List.getElem_of_mem hr
  obtain ⟨_, _, _, _, _, _, hC⟩ := Mx.rows_at h i (by omega) hi
  have := hC.2.1
  have := hC.1
  omega
theorem small_rows {m : List (List Int)} (h : m.length + tot m ≤ 1048576) : m.length ≤ 1048576 ∧ (∀ r ∈ m, r.length ≤ 1048576) ∧ tot m ≤ 1048576 := by
  have ht : ∀ (l : List (List Int)), ∀ r ∈ l, r.length ≤ tot l := by
    intro l
    induction l with
    | nil => intro r hr; cases hr
    | cons x l ih =>
      intro r hr
      rcases List.mem_cons.1 hr with rfl | hr
      · simp only [tot]; omega
      · have := ih r hr; simp only [tot]; omega
  exact ⟨by omega, fun r hr => by have := ht m r hr; omega, by omega⟩
theorem le_small {m : List (List Int)} {k : Nat} (h : m.length ≤ k ∧ ∀ r ∈ m, r.length ≤ k) (hk : k ≤ 1000 := by decide) : m.length ≤ 1000 ∧ ∀ r ∈ m, r.length ≤ 1000 := ⟨by omega, fun r hr => by have := h.2 r hr; omega⟩

theorem set_same {α : Type} {l : List α} {j : Nat} {x : α} (h : l[j]? = some x) : l.set j x = l := by
  apply List.ext_getElem?
  intro i
  by_cases e : j = i
  · subst e; rw [Env.set_at h, h]
  · rw [List.getElem?_set_ne e]
set_option maxHeartbeats 4000000 in
theorem l2swap_e {w0 w : World} {L : List (Value × Env.It)} (E : Env.Env 23 3 w0 w L) (j : Nat) {A : Option Addr} {c : Nat} {m : List (List Nat)} (hj : L[j]? = some (.slice A m.length c, .mat (upM m))) {a b : Nat} (ha : a < m.length) (hb : b < m.length) :
    Calls Try.prog 172 #[.slice A m.length c, .int .i64 (a : Int), .int .i64 (b : Int)] w fun e w' => e = .returned (.tuple #[]) ∧ Env.Env 23 3 w0 w' (L.set j (.slice A m.length c, .mat (upM (Mat.swp m a b)))) := by
  obtain ⟨g, Aa, ca, Ab, cb, hA', hca, hfa, hcb, hfb, hsw⟩ := E.mswap (by decide) hj (a := a) (b := b) (by rw [upM_length]; exact ha) (by rw [upM_length]; exact hb)
  subst hA'
  rw [upM_getD] at hca
  rw [upM_getD] at hcb
  rw [upM_getD, upM_getD, upM_set, upM_set] at hsw
  have HSW := Aside0.mk (show Env.Env 23 3 w0 _ (L.set j (.slice (some ⟨g, 0, none⟩) m.length c, .mat (upM (Mat.swp m a b)))) from hsw)
  generalize m.getD a [] = ra at hca HSW
  generalize m.getD b [] = rb at hcb HSW
  have i1 : ((a : Int) < (m.length : Int)) = True := eq_true (by omega)
  have i2 : ((b : Int) < (m.length : Int)) = True := eq_true (by omega)
  have i3 : (0 ≤ (a : Int)) = True := eq_true (by omega)
  have i4 : (0 ≤ (b : Int)) = True := eq_true (by omega)
  have i5 : (a < m.length) = True := eq_true ha
  have i6 : (b < m.length) = True := eq_true hb
  have hcb2 : (w.setCell ⟨g, a, none⟩ (.slice Ab (Poly.up rb).length cb)).cell? ⟨g, b, none⟩ = some (.slice Ab (Poly.up rb).length cb) := Env.cell_both hcb
  clear hsw
  go_enter Try.func172, Try.ntmps172
  go_wp2
  refine bodyPost_end (results_none rfl _ _ _) rfl ?_
  exact ⟨rfl, HSW.out⟩
set_option maxHeartbeats 8000000 in
theorem l2scale_e {w0 w : World} {L : List (Value × Env.It)} (E : Env.Env 23 3 w0 w L) (j : Nat) {g c : Nat} {m : List (List Nat)} (hj : L[j]? = some (.slice (some ⟨g, 0, none⟩) m.length c, .mat (upM m))) {cc : Nat} (hm : Mat.MB' cc m) (hc : cc ≤ 100) {i : Nat} (hi : i < m.length) {gu cu : Nat} (hh : w.cell? ⟨g, i, none⟩ = some (.slice (some ⟨gu, 0, none⟩) cc cu)) (x : Nat) (hx : x < 256) :
    Calls Try.prog 173 #[.slice (some ⟨gu, 0, none⟩) cc cu, .int .i64 (x : Int)] w fun e w' => e = .returned (.tuple #[]) ∧ Env.Env 23 3 w0 w' (L.set j (.slice (some ⟨g, 0, none⟩) m.length c, .mat (upM (m.set i (Mat.rscale (Gf.gi x) (m.getD i [])))))) := by
  obtain ⟨R, hR⟩ : ∃ R, R = m.getD i [] := ⟨_, rfl⟩
  rw [← hR]
  have HRB := Aside0.mk (show R.length = cc ∧ Poly.AllB R from by rw [hR]; exact hm.get hi)
  have HSZ := Aside0.mk (show cc ≤ 100 ∧ x < 256 from ⟨hc, hx⟩)
  have HJ := Aside0.mk (show ∀ Z, (L.set j (.slice (some ⟨g, 0, none⟩) m.length c, .mat (upM Z)))[j]? = some (.slice (some ⟨g, 0, none⟩) m.length c, Env.It.mat (upM Z)) from fun Z => Env.set_at hj)
  have HE := Aside0.mk (show Env.Env 23 3 w0 w (L.set j (.slice (some ⟨g, 0, none⟩) m.length c, .mat (upM (m.set i (Mat.rscaleTo (Gf.gi x) R 0))))) from by rw [Mat.rscaleTo_zero, hR, Mat.set_self, set_same hj]; exact E)
  have HH := Aside0.mk hh
  have HIL := Aside0.mk hi
  clear E hR hm hc hx hj hh hi
  go_enter Try.func173, Try.ntmps173
  go_wp2
  go_loopg [8] cc (fun gg s8 wq => ∃ q : Nat, q ≤ cc ∧ cc - q ≤ gg ∧ s8 = .int .i64 q ∧ Aside0 (Env.Env 23 3 w0 wq (L.set j (.slice (some ⟨g, 0, none⟩) m.length c, .mat (upM (m.set i (Mat.rscaleTo (Gf.gi x) R q)))))) ∧ Aside0 (wq.cell? ⟨g, i, none⟩ = some (.slice (some ⟨gu, 0, none⟩) cc cu)))
  case atStart => exact ⟨0, Nat.zero_le _, by omega, rfl, HE, HH⟩
  case round =>
    clear HE HH
    obtain ⟨q, hq', hgq, rfl, HSQ, HHK⟩ := hrel
    have x0 : (0 : Int) ≤ (q : Int) := by omega
    have x1 : (q : Int) ≤ 100 := by have := HSZ.out; omega
    by_cases hqc : q < cc
    · have hqR : q < R.length := by rw [HRB.out.1]; exact hqc
      have hYl : (m.set i (Mat.rscaleTo (Gf.gi x) R q)).length = m.length := List.length_set
      have hYi : (m.set i (Mat.rscaleTo (Gf.gi x) R q)).getD i [] = Mat.rscaleTo (Gf.gi x) R q := by rw [Mat.getD_setL _ _ _ _ HIL.out, if_pos rfl]
      have hrl2 : (Poly.up (Mat.rscaleTo (Gf.gi x) R q)).length = cc := by rw [Poly.up_length, Mat.rscaleTo_length, HRB.out.1]
      obtain ⟨g', gu', cu', hA', hh, _, hx, _, hput⟩ := HSQ.out.mput2 (by decide) (HJ.out _) (i := i) (q := q) (by rw [upM_length, hYl]; exact HIL.out) (by rw [upM_getD, hYi, hrl2]; exact hqc)
      injection hA' with hA'
      injection hA' with hA'
      subst hA'
      rw [upM_getD, hYi, hrl2] at hh
      have hne := HSQ.out.mne (by decide) (HJ.out _) (i := i) (by rw [upM_length, hYl]; exact HIL.out) hh
      have hk2 := hh.symm.trans HHK.out
      injection hk2 with hk2
      injection hk2 with hk3 _ hk4
      injection hk3 with hk3
      injection hk3 with hk3
      subst hk3 hk4
      rw [upM_getD, hYi, Poly.rd_up, Mat.rscaleTo_at _ hqR] at hx
      have hyb : R.getD q 0 < 256 := Poly.AllB.get HRB.out.2 q
      have hset : (upM (m.set i (Mat.rscaleTo (Gf.gi x) R q))).set i ((Poly.up (Mat.rscaleTo (Gf.gi x) R q)).set q ((Gf.gm (R.getD q 0) (Gf.gi x) : Nat) : Int)) = upM (m.set i (Mat.rscaleTo (Gf.gi x) R (q + 1))) := by rw [Poly.up_set, Mat.rscaleTo_succ _ hqR, upM_set, List.set_set]
      have hput2 : ∀ W, Below wr.heap.size wr W → (∃ v, W.cell? ⟨gu', q, none⟩ = some v) ∧ W.frozen? ⟨gu', q, none⟩ = false ∧ Env.Env 23 3 w0 (W.setCell ⟨gu', q, none⟩ (.int .i64 ((Gf.gm (R.getD q 0) (Gf.gi x) : Nat) : Int))) (L.set j (.slice (some ⟨g, 0, none⟩) m.length c, .mat (upM (m.set i (Mat.rscaleTo (Gf.gi x) R (q + 1)))))) ∧ (W.setCell ⟨gu', q, none⟩ (.int .i64 ((Gf.gm (R.getD q 0) (Gf.gi x) : Nat) : Int))).cell? ⟨g, i, none⟩ = some (.slice (some ⟨gu', 0, none⟩) cc cu') := fun W hW => by
        have h8 := hput W hW
        have h9 := h8.2.2 ((Gf.gm (R.getD q 0) (Gf.gi x) : Nat) : Int)
        rw [upM_getD, hYi, hset, List.set_set] at h9
        exact ⟨⟨_, h8.1⟩, h8.2.1, h9, Env.cell_far (pw_cell_below hW hh) hne⟩
      have HPW := Aside0.mk hput2
      obtain ⟨K2, h2⟩ := (spec_l1Div_ev (R.getD q 0) x hyb HSZ.out.2).rounds
      have HK2 := Aside0.mk h2
      have j1 : ((q : Int) < (cc : Int)) = True := eq_true (by omega)
      have j2 : (q < cc) = True := eq_true hqc
      generalize R.getD q 0 = y at hx HPW HK2
      clear hput hput2 hset hyb h2 hh hne hqR hrl2 hYl hYi HHK HSQ
      go_wp2_with (go_at_call 197; refine (spec_l1Div.calls K2 (y : Int) (x : Int) _ _ HK2.out).mono ?_; rintro e w4 ⟨rfl, hd4⟩; obtain ⟨⟨v4, hv4⟩, hf4, hE4, hC4⟩ := HPW.out w4 hd4.below; have HE4 := Aside0.mk hE4; have HC4 := Aside0.mk hC4; clear hE4 hC4 hd4)
      go_roundg (cc - (q + 1))
      case measure => omega
      case rel => exact ⟨q + 1, by omega, by omega, by go_num, HE4, HC4⟩
    · have j1 : ((q : Int) < (cc : Int)) = False := eq_false (by omega)
      have hqe : q = R.length := by rw [HRB.out.1]; omega
      have HE6 := Aside0.mk (show Env.Env 23 3 w0 wr (L.set j (.slice (some ⟨g, 0, none⟩) m.length c, .mat (upM (m.set i (Mat.rscale (Gf.gi x) R))))) from by
        have h9 := HSQ.out
        rw [hqe, Mat.rscaleTo_all] at h9
        exact h9)
      clear hqe HSQ HHK
      go_wp2
      refine bodyPost_end (results_none rfl _ _ _) rfl ?_
      exact ⟨rfl, HE6.out⟩
def T_sa3 : Bool × List (List Nat × List Nat) := (true, [([], []), ([], []), ([0, 1], [0, 1]), ([2], [2]), ([], []), ([], []), ([4, 5], [4, 5]), ([3, 6], [3, 6]), ([0, 1, 0, 1, 2, 3, 4, 5, 6, 7], [0, 1]), ([8, 7, 6, 0, 1, 2, 3, 4, 5, 6, 7], [7, 8])])
def B_sa3 : List Nat := [0, 0, 3, 7, 0, 0, 48, 127, 255, 511]
theorem tab_sa3 : rtab .any (opsOf Try.f131 3) = T_sa3 := by kernel_rfl
theorem bits_sa3 : waitsOk T_sa3.2 B_sa3 = true := by kernel_rfl
set_option maxHeartbeats 8000000 in
set_option maxRecDepth 100000 in
theorem l2addM_e {w0 w : World} {L : List (Value × Env.It)} (E : Env.Env 23 3 w0 w L) (j : Nat) {g c : Nat} {m : List (List Nat)} (hj : L[j]? = some (.slice (some ⟨g, 0, none⟩) m.length c, .mat (upM m))) {cc : Nat} (hm : Mat.MB' cc m) (hc : cc ≤ 100) {i r : Nat} (hi : i < m.length) (hr : r < m.length) (hir : ¬ i = r) {gu cu gt ct : Nat} (hh : w.cell? ⟨g, i, none⟩ = some (.slice (some ⟨gu, 0, none⟩) cc cu)) (ht : w.cell? ⟨g, r, none⟩ = some (.slice (some ⟨gt, 0, none⟩) cc ct)) (x : Nat) (hx : x < 256) :
    Calls Try.prog 131 #[.slice (some ⟨gu, 0, none⟩) cc cu, .slice (some ⟨gt, 0, none⟩) cc ct, .int .i64 (x : Int)] w fun e w' => e = .returned (.tuple #[]) ∧ Env.Env 23 3 w0 w' (L.set j (.slice (some ⟨g, 0, none⟩) m.length c, .mat (upM (m.set i (Mat.radd x (m.getD i []) (m.getD r [])))))) := by
  obtain ⟨R, hR⟩ : ∃ R, R = m.getD i [] := ⟨_, rfl⟩
  obtain ⟨T, hT⟩ : ∃ T, T = m.getD r [] := ⟨_, rfl⟩
  rw [← hR, ← hT]
  have HRB := Aside0.mk (show R.length = cc ∧ Poly.AllB R from by rw [hR]; exact hm.get hi)
  have HTB := Aside0.mk (show T.length = cc ∧ Poly.AllB T from by rw [hT]; exact hm.get hr)
  have HSZ := Aside0.mk (show cc ≤ 100 ∧ x < 256 from ⟨hc, hx⟩)
  have HJ := Aside0.mk (show ∀ Z, (L.set j (.slice (some ⟨g, 0, none⟩) m.length c, .mat (upM Z)))[j]? = some (.slice (some ⟨g, 0, none⟩) m.length c, Env.It.mat (upM Z)) from fun Z => Env.set_at hj)
  have HE := Aside0.mk (show Env.Env 23 3 w0 w (L.set j (.slice (some ⟨g, 0, none⟩) m.length c, .mat (upM (m.set i (Mat.raddTo x R T 0))))) from by rw [Mat.raddTo_zero, hR, Mat.set_self, set_same hj]; exact E)
  have HH := Aside0.mk hh
  have HT := Aside0.mk ht
  have HIL := Aside0.mk hi
  have HRL := Aside0.mk hr
  have HYR := Aside0.mk (show ∀ X, (m.set i X).getD r [] = T from fun X => by rw [Mat.getD_setL _ _ _ _ hi, if_neg (fun h => hir h.symm), hT])
  clear E hR hT hm hc hx hj hh ht hi hr hir
  go_enter Try.func131, Try.ntmps131
  go_wp2
  go_loopg [10] cc (fun gg s10 wq => ∃ q : Nat, q ≤ cc ∧ cc - q ≤ gg ∧ s10 = .int .i64 q ∧ Aside0 (Env.Env 23 3 w0 wq (L.set j (.slice (some ⟨g, 0, none⟩) m.length c, .mat (upM (m.set i (Mat.raddTo x R T q)))))) ∧ Aside0 (wq.cell? ⟨g, i, none⟩ = some (.slice (some ⟨gu, 0, none⟩) cc cu)) ∧ Aside0 (wq.cell? ⟨g, r, none⟩ = some (.slice (some ⟨gt, 0, none⟩) cc ct)))
  case atStart => exact ⟨0, Nat.zero_le _, by omega, rfl, HE, HH, HT⟩
  case round =>
    clear HE HH HT
    obtain ⟨q, hq', hgq, rfl, HSQ, HHK, HTK⟩ := hrel
    have x0 : (0 : Int) ≤ (q : Int) := by omega
    have x1 : (q : Int) ≤ 100 := by have := HSZ.out; omega
    have hRT : R.length = T.length := by rw [HRB.out.1, HTB.out.1]
    by_cases hqc : q < cc
    · have hqR : q < R.length := by rw [HRB.out.1]; exact hqc
      have hYl : (m.set i (Mat.raddTo x R T q)).length = m.length := List.length_set
      have hYi : (m.set i (Mat.raddTo x R T q)).getD i [] = Mat.raddTo x R T q := by rw [Mat.getD_setL _ _ _ _ HIL.out, if_pos rfl]
      have hrl2 : (Poly.up (Mat.raddTo x R T q)).length = cc := by rw [Poly.up_length, Mat.raddTo_length hRT, HRB.out.1]
      have HQ := HSQ.out.drewN 1
      obtain ⟨g', gu', cu', hA', hh, _, hx, _, hput⟩ := HQ.mput2 (by decide) (HJ.out _) (i := i) (q := q) (by rw [upM_length, hYl]; exact HIL.out) (by rw [upM_getD, hYi, hrl2]; exact hqc)
      injection hA' with hA'
      injection hA' with hA'
      subst hA'
      rw [upM_getD, hYi, hrl2] at hh
      have hne := HQ.mne (by decide) (HJ.out _) (i := i) (by rw [upM_length, hYl]; exact HIL.out) hh
      have hk2 := hh.symm.trans HHK.out
      injection hk2 with hk2
      injection hk2 with hk3 _ hk4
      injection hk3 with hk3
      injection hk3 with hk3
      subst hk3 hk4
      rw [upM_getD, hYi, Poly.rd_up, Mat.raddTo_at hRT hqR] at hx
      obtain ⟨g', gt', ct', hA', ht, _, htx, _, _⟩ := HQ.mput2 (by decide) (HJ.out _) (i := r) (q := q) (by rw [upM_length, hYl]; exact HRL.out) (by rw [upM_getD, HYR.out, Poly.up_length, HTB.out.1]; exact hqc)
      injection hA' with hA'
      injection hA' with hA'
      subst hA'
      rw [upM_getD, HYR.out, Poly.up_length, HTB.out.1] at ht
      have hk2 := ht.symm.trans HTK.out
      injection hk2 with hk2
      injection hk2 with hk3 _ hk4
      injection hk3 with hk3
      injection hk3 with hk3
      subst hk3 hk4
      rw [upM_getD, HYR.out, Poly.rd_up] at htx
      have hyb : R.getD q 0 < 256 := Poly.AllB.get HRB.out.2 q
      have htb : T.getD q 0 < 256 := Poly.AllB.get HTB.out.2 q
      have hxr := xor_up hyb (Gf.gm_lt (T.getD q 0) HSZ.out.2)
      have hset : (upM (m.set i (Mat.raddTo x R T q))).set i ((Poly.up (Mat.raddTo x R T q)).set q (Go.bits .xor .i64 ((R.getD q 0 : Nat) : Int) ((Gf.gm x (T.getD q 0) : Nat) : Int))) = upM (m.set i (Mat.raddTo x R T (q + 1))) := by rw [hxr, Poly.up_set, Mat.raddTo_succ hRT hqR, upM_set, List.set_set]
      have hput2 : ∀ W, Below wr.drew.heap.size wr.drew W → (∃ v, W.cell? ⟨gu', q, none⟩ = some v) ∧ W.frozen? ⟨gu', q, none⟩ = false ∧ Env.Env 23 3 w0 (W.setCell ⟨gu', q, none⟩ (.int .i64 (Go.bits .xor .i64 ((R.getD q 0 : Nat) : Int) ((Gf.gm x (T.getD q 0) : Nat) : Int)))) (L.set j (.slice (some ⟨g, 0, none⟩) m.length c, .mat (upM (m.set i (Mat.raddTo x R T (q + 1)))))) ∧ (W.setCell ⟨gu', q, none⟩ (.int .i64 (Go.bits .xor .i64 ((R.getD q 0 : Nat) : Int) ((Gf.gm x (T.getD q 0) : Nat) : Int)))).cell? ⟨g, i, none⟩ = some (.slice (some ⟨gu', 0, none⟩) cc cu') ∧ (W.setCell ⟨gu', q, none⟩ (.int .i64 (Go.bits .xor .i64 ((R.getD q 0 : Nat) : Int) ((Gf.gm x (T.getD q 0) : Nat) : Int)))).cell? ⟨g, r, none⟩ = some (.slice (some ⟨gt', 0, none⟩) cc ct') := fun W hW => by
        have h8 := hput W hW
        have h9 := h8.2.2 (Go.bits .xor .i64 ((R.getD q 0 : Nat) : Int) ((Gf.gm x (T.getD q 0) : Nat) : Int))
        rw [upM_getD, hYi, hset, List.set_set] at h9
        exact ⟨⟨_, h8.1⟩, h8.2.1, h9, Env.cell_far (pw_cell_below hW hh) hne, Env.cell_far (pw_cell_below hW ht) hne⟩
      have HPW := Aside0.mk hput2
      obtain ⟨K2, h2⟩ := (spec_l1Mul_ev (T.getD q 0) x htb HSZ.out.2).rounds
      rw [Gf.gm_comm htb HSZ.out.2] at h2
      have HK2 := Aside0.mk h2
      have j1 : ((q : Int) < (cc : Int)) = True := eq_true (by omega)
      have j2 : (q < cc) = True := eq_true hqc
      have hx0 : wr.drew.cell? ⟨gu', q, none⟩ = some (.int .i64 ((R.getD q 0 : Nat) : Int)) := hx
      have htw : wr.cell? ⟨gt', q, none⟩ = some (.int .i64 ((T.getD q 0 : Nat) : Int)) := htx
      generalize R.getD q 0 = y at hx0 HPW
      generalize T.getD q 0 = z at htw HPW HK2
      clear hput hput2 hset hxr hyb htb h2 hh hx ht htx hne HQ hqR hrl2 hRT hYl hYi HHK HTK HSQ
      go_wp2_with fail
      refine start_ (n := 10) (S := fun w' => w'.cell? ⟨gu', q, none⟩ = some (.int .i64 (y : Int))) (ds := [9]) #[false, false, false, false, false, false, false, false, false, false] (by kernel_rfl) rfl rfl (hx0) (fun hHeld => ?_); refine with_tabW tab_sa3 bits_sa3 (fun HT_ HW_ => ?_)
      generalize wr.drew = w5 at HPW hx0 hHeld ⊢
      refine pure_ (i := 0) (N := some 15) (v := ?_) (a' := ?_) #[true, false, false, false, false, false, false, false, false, false] rfl rfl (any_of HT_.out (by kernel_rfl)) (fun _ _ _ h => h) (Or.inl ⟨by rfl, ?_⟩) ?_ ?_
      rotate_left
      · intro w'
        go_simp
        with_reducible rfl
      rotate_left
      · simp only [Act.put, List.setIfInBounds_toArray, List.set_cons_zero, List.set_cons_succ, i64_w, i32_w]
        rfl
      refine pure_ (i := 1) (N := some 16) (v := ?_) (a' := ?_) #[true, true, false, false, false, false, false, false, false, false] rfl rfl (any_of HT_.out (by kernel_rfl)) (fun _ _ _ h => h) (Or.inl ⟨by rfl, ?_⟩) ?_ ?_
      rotate_left
      · intro w'
        go_simp
        with_reducible rfl
      rotate_left
      · simp only [Act.put, List.setIfInBounds_toArray, List.set_cons_zero, List.set_cons_succ, i64_w, i32_w]
        rfl
      refine pure_ (i := 2) (N := some 17) (v := ?_) (a' := ?_) #[true, true, true, false, false, false, false, false, false, false] rfl rfl (any_of HT_.out (by kernel_rfl)) (fun _ _ _ h => h) (Or.inl ⟨by rfl, ?_⟩) ?_ ?_
      rotate_left
      · intro w'
        go_simp
        with_reducible rfl
      rotate_left
      · simp only [Act.put, List.setIfInBounds_toArray, List.set_cons_zero, List.set_cons_succ, i64_w, i32_w]
        rfl
      refine pure_ (i := 4) (N := some 19) (v := ?_) (a' := ?_) #[true, true, true, false, true, false, false, false, false, false] rfl rfl (any_of HT_.out (by kernel_rfl)) (fun _ _ _ h => h) (Or.inl ⟨by rfl, ?_⟩) ?_ ?_
      rotate_left
      · intro w'
        go_simp
        with_reducible rfl
      rotate_left
      · simp only [Act.put, List.setIfInBounds_toArray, List.set_cons_zero, List.set_cons_succ, i64_w, i32_w]
        rfl
      refine pure_ (i := 5) (N := some 20) (v := ?_) (a' := ?_) #[true, true, true, false, true, true, false, false, false, false] rfl rfl (any_of HT_.out (by kernel_rfl)) (fun _ _ _ h => h) (Or.inl ⟨by rfl, ?_⟩) ?_ ?_
      rotate_left
      · intro w'
        go_simp
        with_reducible rfl
      rotate_left
      · simp only [Act.put, List.setIfInBounds_toArray, List.set_cons_zero, List.set_cons_succ, i64_w, i32_w]
        rfl
      refine take_ (i := 3) (N := some 18) (v := ?_) (a' := ?_) #[true, true, true, true, true, true, false, false, false, false] rfl rfl (take_ofW HT_.out HW_.out (by kernel_rfl)) (fun _ _ _ h => h) (Or.inl ⟨by rfl, ?_⟩) hHeld ?_ ?_
      rotate_left
      · intro w' s0
        go_simp
        with_reducible rfl
      rotate_left
      · simp only [Act.put, List.setIfInBounds_toArray, List.set_cons_zero, List.set_cons_succ, i64_w, i32_w]
        rfl
      refine one_ (i := 6) (N := some 21) #[true, true, true, true, true, true, true, false, false, false] rfl rfl (one_of HT_.out (by kernel_rfl)) (by decide) (fun K hK => ?_)
      refine goes_ Try.func163 (by kernel_rfl) rfl #[.int .i64 (z : Int), .int .i64 (x : Int)] (by rfl) rfl rfl (by (try simp only [List.map_toArray, List.map_cons, List.map_nil]); first | done | rfl | (simp only [List.length_drop, List.length_take]; rfl)) ?_
      refine (spec_l1Mul.calls K2 (z : Int) (x : Int) _ _ HK2.out).mono ?_
      rintro e w4 ⟨rfl, hd4⟩
      refine ⟨_, rfl, ?_⟩
      obtain ⟨⟨v4, hv4⟩, hf4, hE4, hC4, hD4⟩ := HPW.out w4 hd4.below
      have HE4 := Aside0.mk hE4
      have HC4 := Aside0.mk hC4
      have HD4 := Aside0.mk hD4
      have hS4 := pw_cell_below hd4.below hx0
      clear hE4 hC4 hD4 hd4 HPW HK2 hx0 htw
      refine hK.out _ _ hS4 (fun hHeld => ?_)
      clear hK K hS4
      refine norm_ (a' := ?_) ?_ ?_
      rotate_left
      · show Act.put _ (some 21) _ = _
        simp only [Act.put, List.setIfInBounds_toArray, List.set_cons_zero, List.set_cons_succ, i64_w, i32_w]
        rfl
      refine pure_ (i := 7) (N := some 22) (v := ?_) (a' := ?_) #[true, true, true, true, true, true, true, true, false, false] rfl rfl (any_of HT_.out (by kernel_rfl)) (fun _ _ _ h => h) (Or.inl ⟨by rfl, ?_⟩) ?_ ?_
      rotate_left
      · intro w'
        go_simp
        with_reducible rfl
      rotate_left
      · simp only [Act.put, List.setIfInBounds_toArray, List.set_cons_zero, List.set_cons_succ, i64_w, i32_w]
        rfl
      refine pure_ (i := 8) (N := some 23) (v := ?_) (a' := ?_) #[true, true, true, true, true, true, true, true, true, false] rfl rfl (any_of HT_.out (by kernel_rfl)) (fun _ _ _ h => h) (Or.inl ⟨by rfl, ?_⟩) ?_ ?_
      rotate_left
      · intro w'
        go_simp
        with_reducible rfl
      rotate_left
      · simp only [Act.put, List.setIfInBounds_toArray, List.set_cons_zero, List.set_cons_succ, i64_w, i32_w]
        rfl
      refine last_ (i := 9) (N := none) #[true, true, true, true, true, true, true, true, true, true] rfl rfl (one_of HT_.out (by kernel_rfl)) (by decide) (fun K hK => ?_)
      refine skip_ (w1 := ?_) (by rfl) rfl ?_ ?_
      rotate_left
      · go_simp
        rfl
      refine hK.out _ _ ?_
      clear hK K
      refine done_ (done_of HT_.out (by kernel_rfl)) ?_
      go_wp2
      go_roundg (cc - (q + 1))
      case measure => omega
      case rel => exact ⟨q + 1, by omega, by omega, by go_num, HE4, HC4, HD4⟩
    · have j1 : ((q : Int) < (cc : Int)) = False := eq_false (by omega)
      have hqe : q = R.length := by rw [HRB.out.1]; omega
      have HE6 := Aside0.mk (show Env.Env 23 3 w0 wr (L.set j (.slice (some ⟨g, 0, none⟩) m.length c, .mat (upM (m.set i (Mat.radd x R T))))) from by
        have h9 := HSQ.out
        rw [hqe, Mat.raddTo_all hRT] at h9
        exact h9)
      clear hqe hRT HSQ HHK HTK
      go_wp2
      refine bodyPost_end (results_none rfl _ _ _) rfl ?_
      exact ⟨rfl, HE6.out⟩

end Go.Proofs.Ytldlldfoaicjcaa.Pure
