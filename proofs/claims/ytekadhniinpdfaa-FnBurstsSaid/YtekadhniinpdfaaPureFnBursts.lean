/- No burst of up to 32 bits leaves the sum as it was (Peterson and Brown): the walk of the law. No conditions beyond the row's own. -/
import Derived.Test.YtekadhniinpdfaaMFnBurstsx3
import Derived.Test.YtekadhniinpdfaaMFnBurstsx0
import Derived.Test.YtekadhniinpdfaaMFnBurstsx1
import Derived.Test.YtekadhniinpdfaaMFnBurstsx2
import Derived.Test.YtekadhniinpdfaaBit
import Derived.Test.YtekadhniinpdfaaCrc
import Derived.Test.YtekadhniinpdfaaBurst
set_option linter.unusedVariables false
set_option linter.unusedSimpArgs false
namespace Go.Proofs.Ytekadhniinpdfaa.Pure
open Go.RowKit Go.Proofs.Ytekadhniinpdfaa Go.Proofs.Ytekadhniinpdfaa.MFnBursts Go.Proofs.YtekadhniinpdfaaW.PrintWords Go.Proofs.YtekadhniinpdfaaW.PrintLast Go.Proofs.Ytekadhniinpdfaa.Bit

theorem impl_within_eq (a b c : Int) : impl_within.f a b c = some (decide (b ≤ a ∧ a ≤ c)) := by
  unfold impl_within.f
  by_cases h : a ≥ b
  · rw [if_pos h]; congr 1; simp [show b ≤ a from h]
  · rw [if_neg h]; congr 1; simp; omega

theorem rd_nat (l : List Int) (i : Nat) (h : i < l.length) : rd l (i : Int) = l[i] := by
  unfold rd
  simp [List.getD_eq_getElem?_getD, List.getElem?_eq_getElem h]
theorem wrap_succ (i : Nat) (h : i < 9223372036854775807) : wrap64 ((i : Int) + 1) = ((i + 1 : Nat) : Int) := by rw [wrap_id (by omega) (by omega)]; omega

/-- Is a number an element? -/
def isB (a : Int) : Bool := decide (0 ≤ a ∧ a ≤ 255)
theorem isB_nat {a : Int} (h : isB a = true) : ∃ n : Nat, a = (n : Int) ∧ n < 256 := by
  simp only [isB, decide_eq_true_eq] at h
  exact ⟨a.toNat, by omega, by omega⟩
theorem isB_cast {n : Nat} (h : n < 256) : isB (n : Int) = true := by simp only [isB, decide_eq_true_eq]; omega

theorem and_255 (x : Int) : 0 ≤ Go.bits .and .u64 x 255 ∧ Go.bits .and .u64 x 255 ≤ 255 := by
  have h : Go.bits .and .u64 x 255 = IntKind.u64.wrap ((BitVec.ofInt 64 x &&& BitVec.ofInt 64 255).toNat : Int) := rfl
  rw [h, BitVec.toNat_and]
  have h2 : (BitVec.ofInt 64 255).toNat = 255 := by decide
  rw [h2]
  have h3 : (BitVec.ofInt 64 x).toNat &&& 255 ≤ 255 := Nat.and_le_right
  rw [IntKind.wrap_u64]
  omega
theorem wrap_in {n : Int} (h0 : -1000000000000000 ≤ n) (h1 : n ≤ 1000000000000000) : wrap64 n = n := wrap_id (by omega) (by omega)
theorem tmod_in (x n : Int) (hx : 0 ≤ x) (hn : 0 < n) : 0 ≤ Int.tmod x n ∧ Int.tmod x n < n ∧ Int.tmod x n ≤ x := by
  obtain ⟨a, rfl⟩ := nat_of hx
  obtain ⟨b, rfl⟩ := nat_of (a := n) (by omega)
  have e : Int.tmod (a : Int) (b : Int) = ((a % b : Nat) : Int) := rfl
  rw [e]
  have := Nat.mod_lt a (show b > 0 by omega)
  have := Nat.mod_le a b
  omega
/-- The bytes that are drawn from. -/
def BY (s : List Int) : Prop := ∀ x ∈ s, 0 ≤ x ∧ x ≤ 255
theorem wf_BY {s : List Int} (h : ∀ x ∈ s, (Lit.int .u8 x).wf = true) : BY s := fun x hx => by
  have := h x hx
  simp only [Lit.wf, IntKind.min, IntKind.max, IntKind.signed, IntKind.bits, Bool.and_eq_true, decide_eq_true_eq] at this
  simp at this
  omega
theorem BY.rd {s : List Int} (h : BY s) (i : Int) : 0 ≤ rd s i ∧ rd s i ≤ 255 := by
  unfold Go.Proofs.YtekadhniinpdfaaW.PrintWords.rd
  rw [List.getD_eq_getElem?_getD]
  cases e : s[i.toNat]? with
  | none => exact ⟨Int.le_refl _, (by decide : (0 : Int) ≤ 255)⟩
  | some v => exact h v (List.mem_of_getElem? e)

theorem spec_l1Cur_next_ex {s : List Int} (hs : BY s) {a : Int} (d : Int) (ha : 0 ≤ a) (hb : a ≤ 1000000000000) : ∃ v a' d', spec_l1Cur_next.f s a d = some (v, a', d') ∧ 0 ≤ v ∧ v ≤ 255 ∧ 0 ≤ a' ∧ a' ≤ a + 1 := by
  have ew : wrap64 (a + 1) = a + 1 := wrap_in (by omega) (by omega)
  unfold spec_l1Cur_next.f
  rw [ew]
  have hr := hs.rd a
  by_cases h1 : a < (s.length : Int)
  · rw [if_pos h1, if_pos ha]
    by_cases h2 : a + 1 ≤ (s.length : Int)
    · rw [if_pos h2]
      exact ⟨_, _, _, rfl, by rw [wrap_in (by omega) (by omega)]; omega, by rw [wrap_in (by omega) (by omega)]; omega, by omega, by omega⟩
    · omega
  · rw [if_neg h1]
    by_cases h2 : a + 1 ≤ (s.length : Int)
    · omega
    · rw [if_neg h2]
      generalize IntKind.u64.wrap ((IntKind.u64.wrap ((IntKind.u64.wrap (d * 6364136223846793005)))) + 1442695040888963407) = z
      have hz := and_255 (z / 1099511627776)
      exact ⟨_, _, _, rfl, by rw [wrap_in (by omega) (by omega)]; omega, by rw [wrap_in (by omega) (by omega)]; omega, by omega, by omega⟩

theorem spec_l1Cur_pick_ex {s : List Int} (hs : BY s) {a : Int} (d : Int) (n : Int) (ha : 0 ≤ a) (hb : a ≤ 900000000000) : ∃ v a' d', spec_l1Cur_pick.f s a d n = some (v, a', d') ∧ 0 ≤ v ∧ (v < n ∨ v = 0) ∧ v ≤ 65535 ∧ 0 ≤ a' ∧ a' ≤ a + 2 := by
  unfold spec_l1Cur_pick.f
  by_cases h1 : n ≤ 1
  · rw [if_pos h1]; exact ⟨_, _, _, rfl, by omega, by omega, by omega, by omega, by omega⟩
  · rw [if_neg h1]
    obtain ⟨v, a1, d1, e1, h2, h3, h4, h5⟩ := spec_l1Cur_next_ex hs d ha (by omega)
    rw [e1, Option.bind_some]
    by_cases h6 : n > 200
    · obtain ⟨v2, a2, d2, e2, h7, h8, h9, h10⟩ := spec_l1Cur_next_ex hs d1 h4 (by omega)
      have ew : wrap64 (wrap64 (v * 256) + v2) = v * 256 + v2 := by rw [wrap_in (n := v * 256) (by omega) (by omega), wrap_in (by omega) (by omega)]
      have ht := tmod_in (v * 256 + v2) n (by omega) (by omega)
      simp only [if_pos h6, e2, Option.bind_some, ew, if_neg (show ¬ n = 0 by omega)]
      exact ⟨_, _, _, rfl, by omega, by omega, by omega, by omega, by omega⟩
    · have ht := tmod_in v n (by omega) (by omega)
      simp only [if_neg h6, if_neg (show ¬ n = 0 by omega)]
      exact ⟨_, _, _, rfl, by omega, by omega, by omega, by omega, by omega⟩

theorem rdOf_nat {α : Type} (d : α) (l : List α) (i : Nat) (h : i < l.length) : rdOf d l (i : Int) = l[i] := by
  unfold rdOf
  simp [List.getD_eq_getElem?_getD, List.getElem?_eq_getElem h]
theorem wrap_succ2 (i : Nat) (h : i < 9223372036854775807) : wrap64 ((i : Int) + 1) = ((i + 1 : Nat) : Int) := by rw [wrap_id (by omega) (by omega)]; omega

theorem spec_l1Cur_of_ex {s : List Int} (hs : BY s) {a : Int} (d : Int) (l : List ByteArray) (ha : 0 ≤ a) (hb : a ≤ 900000000000) (hl : 0 < l.length) : ∃ v a' d', spec_l1Cur_of.f s a d l = some (v, a', d') ∧ v ∈ l ∧ 0 ≤ a' ∧ a' ≤ a + 2 := by
  obtain ⟨v, a1, d1, e1, h2, h3, h4, h5, h6⟩ := spec_l1Cur_pick_ex hs d (l.length : Int) ha hb
  have hv : v < (l.length : Int) := by omega
  obtain ⟨i, rfl⟩ := nat_of h2
  have hi : i < l.length := by omega
  unfold spec_l1Cur_of.f
  rw [e1, Option.bind_some, if_pos h2, if_pos hv]
  exact ⟨_, _, _, rfl, by rw [rdOf_nat _ l i hi]; exact List.getElem_mem hi, h5, h6⟩

theorem spec_l1Cur_one_ex {s : List Int} (hs : BY s) {a : Int} (d : Int) (n : Int) (ha : 0 ≤ a) (hb : a ≤ 900000000000) : ∃ v a' d', spec_l1Cur_one.f s a d n = some (v, a', d') ∧ 0 ≤ a' ∧ a' ≤ a + 2 := by
  obtain ⟨v, a1, d1, e1, h2, h3, h4, h5, h6⟩ := spec_l1Cur_pick_ex hs d n ha hb
  unfold spec_l1Cur_one.f
  rw [e1, Option.bind_some]
  exact ⟨_, _, _, rfl, h5, h6⟩

theorem text5_sizes : ∀ x ∈ ([(⟨#[97]⟩ : ByteArray), (⟨#[98, 108, 111, 99, 107]⟩ : ByteArray), (⟨#[0, 0]⟩ : ByteArray), (⟨#[255]⟩ : ByteArray), (⟨#[115, 111, 109, 101, 32, 116, 101, 120, 116]⟩ : ByteArray), (⟨#[49, 50, 51, 52, 53, 54, 55, 56, 57]⟩ : ByteArray)] : List ByteArray), x.size ≤ 9 := by
  intro x hx
  simp only [List.mem_cons, List.not_mem_nil, or_false] at hx
  rcases hx with rfl | rfl | rfl | rfl | rfl | rfl <;> decide
theorem spec_l1Cur_text5_l0 {s : List Int} (hs : BY s) : ∀ (n : Nat) (t : ByteArray) (a d : Int), n ≤ 10 → t.size ≤ 9 * (10 - n) → 0 ≤ a → a ≤ 800000000000 - 2 * n → ∃ v a' d', Ev (fun k => spec_l1Cur_text5.l0 k t (n : Int) s a d) (v, a', d') ∧ v.size ≤ 90 ∧ 0 ≤ a' ∧ a' ≤ a + 2 * n := by
  intro n
  induction n with
  | zero =>
    intro t a d _ ht ha hb
    refine ⟨t, a, d, ?_, by omega, by omega, by omega⟩
    exact Ev.step (f := fun _ => some (t, a, d)) (fun k => by simp only [spec_l1Cur_text5.l0]; rw [if_neg (by omega)]) (Ev.now _)
  | succ n ih =>
    intro t a d hn ht ha hb
    obtain ⟨x, a1, d1, e1, h2, h3, h4⟩ := spec_l1Cur_of_ex hs d ([(⟨#[97]⟩ : ByteArray), (⟨#[98, 108, 111, 99, 107]⟩ : ByteArray), (⟨#[0, 0]⟩ : ByteArray), (⟨#[255]⟩ : ByteArray), (⟨#[115, 111, 109, 101, 32, 116, 101, 120, 116]⟩ : ByteArray), (⟨#[49, 50, 51, 52, 53, 54, 55, 56, 57]⟩ : ByteArray)] : List ByteArray) ha (by omega) (by decide)
    have hx := text5_sizes x h2
    obtain ⟨v, a2, d2, e2, h5, h6, h7⟩ := ih (t ++ x) a1 d1 (by omega) (by rw [ByteArray.size_append]; omega) h3 (by omega)
    refine ⟨v, a2, d2, ?_, h5, h6, by omega⟩
    refine Ev.step (f := fun k => spec_l1Cur_text5.l0 k (t ++ x) (n : Int) s a1 d1) (fun k => ?_) e2
    simp only [spec_l1Cur_text5.l0]
    have ew : wrap64 (((n + 1 : Nat) : Int) - 1) = (n : Int) := by rw [wrap_in (by omega) (by omega)]; omega
    rw [if_pos (by omega), e1, Option.bind_some]
    show (if t.size + x.size ≤ 9223372036854775807 then spec_l1Cur_text5.l0 k (t ++ x) (wrap64 (((n + 1 : Nat) : Int) - 1)) s a1 d1 else none) = _
    rw [if_pos (by omega), ew]
theorem strOfNums_len (xs : List Int) : (strOfNums xs).size = xs.length := by simp [strOfNums, ByteArray.size]
theorem spec_l1Cur_text5_ex {s : List Int} (hs : BY s) {a : Int} (d : Int) (ha : 0 ≤ a) (hb : a ≤ 700000000000) : ∃ v a' d', Ev (fun k => spec_l1Cur_text5.f k s a d) (v, a', d') ∧ v.size ≤ 1000 ∧ 0 ≤ a' ∧ a' ≤ a + 100 := by
  obtain ⟨v, a1, d1, e1, h1, h2⟩ := spec_l1Cur_one_ex hs d 20 ha (by omega)
  unfold spec_l1Cur_text5.f
  cases v
  · obtain ⟨v2, a2, d2, e2, h3, h4, h5, h6, h7⟩ := spec_l1Cur_pick_ex hs d1 6 h1 (by omega)
    obtain ⟨n, rfl⟩ := nat_of h3
    obtain ⟨x, a3, d3, e3, h8, h9, h10⟩ := spec_l1Cur_text5_l0 hs n ⟨#[]⟩ a2 d2 (by omega) (by simp [ByteArray.size]) h6 (by omega)
    refine ⟨x, a3, d3, ?_, by omega, h9, by omega⟩
    simp only [e1, e2, Option.bind_some, Bool.false_eq_true, if_false]
    exact e3
  · obtain ⟨v2, a2, d2, e2, h3, h4, h5, h6, h7⟩ := spec_l1Cur_pick_ex hs d1 3 h1 (by omega)
    have ew : wrap64 (399 + v2) = 399 + v2 := wrap_in (by omega) (by omega)
    have z1 : 0 ≤ 399 + v2 := by omega
    have z2 : (399 + v2).toNat ≤ 281474976710656 := by omega
    refine ⟨strOfNums (List.replicate (399 + v2).toNat 0), a2, d2, ?_, by rw [strOfNums_len, List.length_replicate]; omega, h6, by omega⟩
    simp only [e1, e2, Option.bind_some, if_true, ew, if_pos z1]
    exact ⟨0, fun k _ => if_pos z2⟩

theorem spec_l1Cur_among_ex {s : List Int} (hs : BY s) {a : Int} (d : Int) (l : List Int) (ha : 0 ≤ a) (hb : a ≤ 900000000000) (hl : 0 < l.length) : ∃ v a' d', spec_l1Cur_among.f s a d l = some (v, a', d') ∧ v ∈ l ∧ 0 ≤ a' ∧ a' ≤ a + 2 := by
  obtain ⟨v, a1, d1, e1, h2, h3, h4, h5, h6⟩ := spec_l1Cur_pick_ex hs d (l.length : Int) ha hb
  have hv : v < (l.length : Int) := by omega
  obtain ⟨i, rfl⟩ := nat_of h2
  have hi : i < l.length := by omega
  unfold spec_l1Cur_among.f
  rw [e1, Option.bind_some, if_pos h2, if_pos hv]
  exact ⟨_, _, _, rfl, by rw [rd_nat l i hi]; exact List.getElem_mem hi, h5, h6⟩

theorem spec_l1Cur_sum32_ex {s : List Int} (hs : BY s) {a : Int} (d : Int) (ha : 0 ≤ a) (hb : a ≤ 800000000000) : ∃ v a' d', spec_l1Cur_sum32.f s a d = some (v, a', d') ∧ 0 ≤ a' ∧ a' ≤ a + 100 := by
  obtain ⟨v, a1, d1, e1, h1, h2⟩ := spec_l1Cur_one_ex hs d 3 ha (by omega)
  unfold spec_l1Cur_sum32.f
  cases v
  · obtain ⟨v2, a2, d2, e2, h3, h4, h5, h6, h7⟩ := spec_l1Cur_pick_ex hs d1 256 h1 (by omega)
    obtain ⟨v3, a3, d3, e3, g3, g4, g5, g6, g7⟩ := spec_l1Cur_pick_ex hs d2 256 h6 (by omega)
    obtain ⟨v4, a4, d4, e4, k3, k4, k5, k6, k7⟩ := spec_l1Cur_pick_ex hs d3 256 g6 (by omega)
    obtain ⟨v5, a5, d5, e5, m3, m4, m5, m6, m7⟩ := spec_l1Cur_pick_ex hs d4 256 k6 (by omega)
    simp only [e1, e2, e3, e4, e5, Option.bind_some, Bool.false_eq_true, if_false]
    exact ⟨_, _, _, rfl, by omega, by omega⟩
  · obtain ⟨v2, a2, d2, e2, _, h6, h7⟩ := spec_l1Cur_among_ex hs d1 ([(-1), 0, 1, 4294967295, 4294967296] : List Int) h1 (by omega) (by decide)
    simp only [e1, e2, Option.bind_some, if_true]
    exact ⟨_, _, _, rfl, by omega, by omega⟩

theorem spec_DrawBurstAt_ex {s : List Int} (hs : BY s) : ∃ t a b, Ev (fun k => spec_DrawBurstAt.f k s) (t, a, b) ∧ t.size ≤ 1000 ∧ a ≤ 70000 := by
  obtain ⟨t, a1, d1, e1, h1, h2, h3⟩ := spec_l1Cur_text5_ex hs (a := 0) 0 (by omega) (by omega)
  obtain ⟨v, a2, d2, e2, h4, h5, h6, h7, h8⟩ := spec_l1Cur_pick_ex hs d1 (wrap64 ((wrap64 (8 * (t.size : Int))) + 2)) h2 (by omega)
  obtain ⟨n, a3, d3, e3, h9, h10⟩ := spec_l1Cur_sum32_ex hs d2 h7 (by omega)
  refine ⟨t, wrap64 (v - 1), n, ?_, h1, by rw [wrap_in (by omega) (by omega)]; omega⟩
  refine Ev.bind (f := fun k bt => (spec_l1Cur_pick.f s bt.2.1 bt.2.2 (wrap64 ((wrap64 (8 * (bt.1.size : Int))) + 2))).bind fun bt162 => ((spec_l1Cur_sum32.f s bt162.2.1 bt162.2.2).bind fun bt165 => (some (bt.1, wrap64 (bt162.1 - 1), bt165.1)))) e1 ?_
  simp only [e2, e3, Option.bind_some]
  exact Ev.now _

/-- Is a number of 32 bits? -/
def isS (a : Int) : Bool := decide (0 ≤ a ∧ a ≤ 4294967295)
theorem isS_nat {a : Int} (h : isS a = true) : ∃ n : Nat, a = (n : Int) ∧ n < 2 ^ 32 := by
  simp only [isS, decide_eq_true_eq] at h
  exact ⟨a.toNat, by omega, by omega⟩
def isL (a : Int) : Bool := decide (0 ≤ a ∧ a ≤ 400)
theorem isL_nat {a : Int} (h : isL a = true) : ∃ n : Nat, a = (n : Int) ∧ n ≤ 400 := by
  simp only [isL, decide_eq_true_eq] at h
  exact ⟨a.toNat, by omega, by omega⟩

theorem impl_isSummed_eq (a : Int) : impl_isSummed.f a = some (isL a) := by
  unfold impl_isSummed.f; rw [impl_within_eq]; rfl

theorem impl_isSum_eq (a : Int) : impl_isSum.f a = some (isS a) := by
  unfold impl_isSum.f; rw [impl_within_eq]; rfl

def nl (l : List Nat) : List Int := l.map fun n : Nat => (n : Int)
theorem nl_length (l : List Nat) : (nl l).length = l.length := by unfold nl; rw [List.length_map]
theorem bytesOf_nl (s : ByteArray) : bytesOf s = nl (Crc.bl s) := by
  unfold bytesOf nl Crc.bl
  rw [List.map_map]; rfl
theorem nl_rd (l : List Nat) (q : Nat) (hq : q < l.length) : rd (nl l) (q : Int) = ((l.getD q 0 : Nat) : Int) := by
  unfold rd nl
  rw [Int.toNat_natCast, List.getD_eq_getElem?_getD, List.getD_eq_getElem?_getD, List.getElem?_map, List.getElem?_eq_getElem hq]; rfl
theorem nl_set (l : List Nat) (q v : Nat) : (nl l).set q (v : Int) = nl (l.set q v) := by
  unfold nl
  rw [List.map_set]
theorem xor_byte {a b : Nat} (ha : a < 256) (hb : b < 256) : Go.bits .xor .u8 (a : Int) (b : Int) = ((a ^^^ b : Nat) : Int) := by
  have h : Go.bits .xor .u8 (a : Int) (b : Int) = IntKind.u8.wrap ((BitVec.ofInt 8 (a : Int) ^^^ BitVec.ofInt 8 (b : Int)).toNat : Int) := rfl
  have hx : a ^^^ b < 256 := Nat.xor_lt_two_pow (n := 8) ha hb
  rw [h, BitVec.toNat_xor, BitVec.ofInt_natCast, BitVec.ofInt_natCast, BitVec.toNat_ofNat, BitVec.toNat_ofNat, Nat.mod_eq_of_lt (by omega), Nat.mod_eq_of_lt (by omega)]
  have h2 : IntKind.u8.wrap ((a ^^^ b : Nat) : Int) = (((a ^^^ b : Nat) : Int)) % 256 := by simp [IntKind.wrap, IntKind.bits, IntKind.signed]
  rw [h2]; omega
theorem u64_nat (n : Nat) (h : n < 2 ^ 63) : IntKind.u64.wrap (n : Int) = (n : Int) := by
  have h' : n < 9223372036854775808 := h
  rw [IntKind.wrap_u64]; omega
theorem shl_one (m : Nat) (h : m < 8) : shl .u8 1 (m : Int) = ((2 ^ m : Nat) : Int) := by
  have : ∀ m : Fin 8, shl .u8 1 ((m.1 : Nat) : Int) = ((2 ^ m.1 : Nat) : Int) := by decide
  exact this ⟨m, h⟩
theorem shr_nat (c m : Nat) (h : m ≤ 64) : shr .i64 (c : Int) (m : Int) = ((c / 2 ^ m : Nat) : Int) := by
  unfold shr
  have hb : IntKind.i64.bits = 64 := rfl
  rw [Int.toNat_natCast, hb, Nat.min_eq_left h, Int.natCast_ediv, Int.natCast_pow]; rfl
theorem tdiv_nat (p : Nat) : Int.tdiv (p : Int) 8 = ((p / 8 : Nat) : Int) := rfl
theorem tmod_nat (p : Nat) : Int.tmod (p : Int) 8 = ((p % 8 : Nat) : Int) := rfl
theorem burst_zero : ∀ (d : Nat) (l : List Nat) (p : Nat), Burst.burst d l p 0 = l
  | 0, _, _ => rfl
  | d + 1, l, p => by
    unfold Burst.burst
    split
    · rw [if_neg (by omega)]; exact burst_zero d l (p + 1)
    · rfl
theorem bs_bl (s : ByteArray) : Burst.Bs (Crc.bl s) := Crc.bl_lt s
/-- A text with a burst. -/
def burstV (s : ByteArray) (a b : Int) : ByteArray × Bool :=
  if (s.size ≤ 400 ∧ 0 ≤ a ∧ a < 8 * (s.size : Int)) ∧ isS b = true then (strOfNums (nl (Burst.burst 32 (Crc.bl s) a.toNat b.toNat)), true) else (⟨#[]⟩, false)

theorem impl_BurstAt_l0 : ∀ (d : Nat) (l : List Nat) (p c : Nat), Burst.Bs l → l.length ≤ 400 → p + d < 5000 → c < 2 ^ d → d ≤ 32 →
    Ev (fun k => impl_BurstAt.l0 k (p : Int) (c : Int) (nl l)) (strOfNums (nl (Burst.burst d l p c)), true) := by
  intro d
  have fin : ∀ (l : List Nat) (p : Nat), Ev (fun k => impl_BurstAt.l0 k (p : Int) ((0 : Nat) : Int) (nl l)) (strOfNums (nl l), true) := fun l p =>
    Ev.step (f := fun _ => some (strOfNums (nl l), true)) (fun k => by rw [impl_BurstAt.l0.eq_2, if_neg (by omega)]) (Ev.now _)
  induction d with
  | zero =>
    intro l p c _ _ _ hc _
    obtain rfl : c = 0 := by omega
    exact fin l p
  | succ d ih =>
    intro l p c hb hl hp hc hd
    by_cases h0 : c = 0
    · subst h0
      rw [burst_zero]; exact fin l p
    have eq : wrap64 ((p / 8 : Nat) : Int) = ((p / 8 : Nat) : Int) := wrap_id (by omega) (by omega)
    have ep : wrap64 ((p : Int) + 1) = ((p + 1 : Nat) : Int) := by rw [wrap_id (by omega) (by omega)]; omega
    unfold Burst.burst
    by_cases hlt : p < 8 * l.length
    rotate_left
    · rw [if_neg hlt]
      refine Ev.step (f := fun _ => some (strOfNums (nl l), true)) (fun k => ?_) (Ev.now _)
      rw [impl_BurstAt.l0.eq_2, if_pos (by omega), tdiv_nat, eq, if_neg (by rw [nl_length]; omega)]
    have hq : p / 8 < l.length := by omega
    have hbit : Go.bits .and .i64 (c : Int) 1 = ((c % 2 : Nat) : Int) := and_one (Nat.lt_of_lt_of_le hc (Nat.le_trans (Nat.pow_le_pow_right (by decide) hd) (by decide)))
    have hsh : shl .i64 ((c % 2 : Nat) : Int) ((p % 8 : Nat) : Int) % 256 = ((c % 2 * 2 ^ (p % 8) : Nat) : Int) := by
      have : ∀ (x : Fin 2) (m : Fin 8), shl .i64 ((x.1 : Nat) : Int) ((m.1 : Nat) : Int) % 256 = ((x.1 * 2 ^ m.1 : Nat) : Int) := by decide
      exact this ⟨c % 2, by omega⟩ ⟨p % 8, by omega⟩
    have hlb : c % 2 * 2 ^ (p % 8) < 256 := by
      have := Burst.pow_byte p
      rcases Nat.mod_two_eq_zero_or_one c with h | h <;> rw [h] <;> omega
    rw [if_pos hlt]
    refine Ev.step (f := fun k => impl_BurstAt.l0 k ((p + 1 : Nat) : Int) ((c / 2 : Nat) : Int) (nl (if c % 2 = 1 then Burst.flip l p else l))) (fun k => ?_) ?_
    · rw [impl_BurstAt.l0.eq_2, if_pos (by omega), tdiv_nat, tmod_nat, eq, if_pos (by rw [nl_length]; omega), if_pos (by omega), if_pos (by omega), hbit, hsh, nl_rd l _ hq, xor_byte (Burst.getD_lt hb _) hlb, Int.toNat_natCast, nl_set, ep, half_nat]
      congr 2
      by_cases h1 : c % 2 = 1
      · rw [if_pos h1, h1, Nat.one_mul]; rfl
      · rw [if_neg h1, show c % 2 = 0 by omega, Nat.zero_mul, Nat.xor_zero, List.getD_eq_getElem?_getD, List.getElem?_eq_getElem hq]
        exact List.set_getElem_self hq
    · exact ih _ (p + 1) (c / 2) (by split; exact Burst.flip_bytes hb _; exact hb) (by split; rw [Burst.flip_length]; exact hl; exact hl) (by omega) (by rw [Nat.pow_succ] at hc; omega) (by omega)
theorem impl_BurstAt_ev (s : ByteArray) (hs0 : s.size ≤ 140737488351232) (a b : Int) (ha : a ≤ 9223372036854775807) : Ev (fun k => impl_BurstAt.f k s a b) (burstV s a b) := by
  have bad : Ev (fun k => impl_BurstAt.j0 k s a b true) ((⟨#[]⟩ : ByteArray), false) := Ev.step (f := fun _ => some ((⟨#[]⟩ : ByteArray), false)) (fun k => by rw [impl_BurstAt.j0.eq_2, if_pos rfl]) (Ev.now _)
  unfold impl_BurstAt.f burstV
  simp only [impl_isSummed_eq, impl_isSum_eq, Option.bind_some]
  by_cases h1 : s.size ≤ 400
  rotate_left
  · have : isL (s.size : Int) = false := by unfold isL; exact decide_eq_false (by omega)
    simp only [this, Bool.false_eq_true, if_false]; rw [if_neg (by omega)]; exact bad
  have hL : isL (s.size : Int) = true := by unfold isL; exact decide_eq_true (by omega)
  simp only [hL, if_true]
  by_cases h2 : a < 0
  · simp only [if_pos h2]; rw [if_neg (by omega)]; exact bad
  simp only [if_neg h2]
  obtain ⟨p, rfl⟩ := nat_of (a := a) (by omega)
  have ew : wrap64 ((p / 8 : Nat) : Int) = ((p / 8 : Nat) : Int) := wrap_id (by omega) (by omega)
  simp only [tdiv_nat, ew]
  by_cases h3 : ((p / 8 : Nat) : Int) ≥ (s.size : Int)
  · simp only [if_pos h3]; rw [if_neg (by omega)]; exact bad
  simp only [if_neg h3]
  cases hb : isS b
  · rw [if_neg (by simp)]; exact bad
  · rw [if_pos ⟨⟨by omega, by omega, by omega⟩, rfl⟩]
    obtain ⟨c, rfl, hc⟩ := isS_nat hb
    rw [Int.toNat_natCast, Int.toNat_natCast]
    refine Ev.step (f := fun k => impl_BurstAt.l0 k (p : Int) (c : Int) (nl (Crc.bl s))) (fun k => ?_) ?_
    · rw [impl_BurstAt.j0.eq_2, if_neg (by decide), bytesOf_nl]
    · exact impl_BurstAt_l0 32 (Crc.bl s) p c (bs_bl s) (by rw [Crc.bl_length]; exact h1) (by clear hc; omega) hc (Nat.le_refl _)

theorem spec_l1In_eq (a b c : Int) : spec_l1In.f a b c = some (decide (b ≤ a ∧ a ≤ c)) := by
  unfold spec_l1In.f
  by_cases h : a ≥ b
  · rw [if_pos h]; congr 1; simp [show b ≤ a from h]
  · rw [if_neg h]; congr 1; simp; omega

theorem spec_l5Sum_eq (a : Int) : spec_l5Sum.f a = some (isS a) := by
  unfold spec_l5Sum.f; rw [spec_l1In_eq]; rfl

theorem spec_BurstAt_l0 (s : ByteArray) (hs : s.size ≤ 400) (p c : Nat) (hp : p < 4000) (hc : c < 4294967296) : ∀ (d i : Nat) (l : List Nat), Burst.Bs l → l.length = s.size → i + d = 32 →
    Ev (fun k => spec_BurstAt.l0 k s (p : Int) (c : Int) (nl l) (i : Int)) (strOfNums (nl (Burst.burst d l (p + i) (c / 2 ^ i))), true) := by
  intro d
  have fin : ∀ (l : List Nat) (i : Nat), Ev (fun k => spec_BurstAt.j2 k s (p : Int) (c : Int) (nl l) (i : Int) false) (strOfNums (nl l), true) := fun l i =>
    Ev.step (f := fun _ => some (strOfNums (nl l), true)) (fun k => by rw [spec_BurstAt.j2.eq_2, if_neg (by decide)]) (Ev.now _)
  induction d with
  | zero =>
    intro i l _ _ hi
    obtain rfl : i = 32 := by omega
    refine Ev.step (f := fun k => spec_BurstAt.j2 k s (p : Int) (c : Int) (nl l) ((32 : Nat) : Int) false) (fun k => ?_) (fin l 32)
    rw [spec_BurstAt.l0.eq_2, if_neg (by omega)]
  | succ d ih =>
    intro i l hb hl hi
    have e1 : wrap64 ((p : Int) + (i : Int)) = ((p + i : Nat) : Int) := by rw [wrap_id (by omega) (by omega)]; omega
    have e2 : wrap64 (8 * (s.size : Int)) = ((8 * s.size : Nat) : Int) := by rw [wrap_id (by omega) (by omega)]; omega
    have e3 : wrap64 ((i : Int) + 1) = ((i + 1 : Nat) : Int) := by rw [wrap_id (by omega) (by omega)]; omega
    have eq : wrap64 ((((p + i) / 8 : Nat)) : Int) = (((p + i) / 8 : Nat) : Int) := wrap_id (by omega) (by omega)
    refine Ev.step (f := fun k => spec_BurstAt.j2 k s (p : Int) (c : Int) (nl l) (i : Int) (decide (p + i < 8 * s.size))) (fun k => ?_) ?_
    · rw [spec_BurstAt.l0.eq_2, if_pos (by omega), e1, e2]
      have hd : decide (((p + i : Nat) : Int) < ((8 * s.size : Nat) : Int)) = decide (p + i < 8 * s.size) := by
        clear hc ih fin e1 e2 e3 eq
        by_cases hz : p + i < 8 * s.size
        · rw [decide_eq_true hz, decide_eq_true (by omega)]
        · rw [decide_eq_false hz, decide_eq_false (by omega)]
      rw [hd]
    by_cases hlt : p + i < 8 * s.size
    rotate_left
    · rw [decide_eq_false hlt]
      unfold Burst.burst
      rw [if_neg (by omega)]
      exact fin l i
    rw [decide_eq_true hlt]
    have hbit : Go.bits .and .i64 (shr .i64 (c : Int) (i : Int)) 1 = ((c / 2 ^ i % 2 : Nat) : Int) := by
      rw [shr_nat c i (by omega), and_one (Nat.lt_of_le_of_lt (Nat.div_le_self _ _) (Nat.lt_trans hc (by decide)))]
    have hcc : c / 2 ^ i / 2 = c / 2 ^ (i + 1) := by rw [Nat.div_div_eq_div_mul, Nat.pow_succ]
    unfold Burst.burst
    rw [if_pos (by omega), hcc, Nat.add_assoc]
    refine Ev.step (f := fun k => spec_BurstAt.l0 k s (p : Int) (c : Int) (nl (if c / 2 ^ i % 2 = 1 then Burst.flip l (p + i) else l)) ((i + 1 : Nat) : Int)) (fun k => ?_) ?_
    · rw [spec_BurstAt.j2.eq_2, if_pos rfl, u64_nat i (by omega), if_pos (by omega), hbit]
      by_cases h1 : c / 2 ^ i % 2 = 1
      · have hq : (p + i) / 8 < l.length := by omega
        rw [if_pos (by omega), e1, tdiv_nat, tmod_nat, eq, u64_nat ((p + i) % 8) (by omega), if_pos (by omega), if_pos (by rw [nl_length]; omega), if_pos (by omega), if_pos h1, shl_one _ (by omega), nl_rd l _ hq, xor_byte (Burst.getD_lt hb _) (Burst.pow_byte _), Int.toNat_natCast, nl_set, e3]
        rfl
      · rw [if_neg (by omega), if_neg h1, e3]
    · exact ih (i + 1) _ (by split; exact Burst.flip_bytes hb _; exact hb) (by split; rw [Burst.flip_length]; exact hl; exact hl) (by omega)
theorem spec_BurstAt_ev (s : ByteArray) (hs0 : s.size ≤ 140737488351232) (a b : Int) : Ev (fun k => spec_BurstAt.f k s a b) (burstV s a b) := by
  have e2 : wrap64 (8 * (s.size : Int)) = 8 * (s.size : Int) := wrap_id (by omega) (by omega)
  have bad : Ev (fun k => spec_BurstAt.j0 k s a b true) ((⟨#[]⟩ : ByteArray), false) := Ev.step (f := fun _ => some ((⟨#[]⟩ : ByteArray), false)) (fun k => by rw [spec_BurstAt.j0.eq_2, if_pos rfl]) (Ev.now _)
  unfold spec_BurstAt.f burstV
  by_cases h1 : (s.size : Int) > 400
  · simp only [if_pos h1]; rw [if_neg (by omega)]; exact bad
  simp only [if_neg h1]
  by_cases h2 : a < 0
  · simp only [if_pos h2]; rw [if_neg (by omega)]; exact bad
  simp only [if_neg h2, e2]
  by_cases h3 : a ≥ 8 * (s.size : Int)
  · simp only [if_pos h3]; rw [if_neg (by omega)]; exact bad
  simp only [if_neg h3, spec_l5Sum_eq, Option.bind_some]
  cases hb : isS b
  · rw [if_neg (by simp)]; exact bad
  · rw [if_pos ⟨⟨by omega, by omega, by omega⟩, rfl⟩]
    obtain ⟨c, rfl, hc⟩ := isS_nat hb
    replace hc : c < 4294967296 := hc
    obtain ⟨p, rfl⟩ := nat_of (a := a) (by omega)
    rw [Int.toNat_natCast, Int.toNat_natCast]
    refine Ev.step (f := fun k => spec_BurstAt.l0 k s (p : Int) (c : Int) (nl (Crc.bl s)) ((0 : Nat) : Int)) (fun k => ?_) ?_
    · rw [spec_BurstAt.j0.eq_2, if_neg (by decide), bytesOf_nl]; rfl
    · have := spec_BurstAt_l0 s (by omega) p c (by omega) hc 32 0 (Crc.bl s) (bs_bl s) (Crc.bl_length s) rfl
      rwa [Nat.pow_zero, Nat.div_one, Nat.add_zero] at this

theorem impl_shifted_l0 : ∀ (n x i : Nat), x < 2 ^ 32 → n + i = 8 → Ev (fun k => impl_shifted.l0 k (x : Int) (i : Int)) ((Crc.shN n x : Nat) : Int) := by
  intro n
  induction n with
  | zero =>
    intro x i _ hi
    obtain rfl : i = 8 := by omega
    exact Ev.step (f := fun _ => some ((x : Nat) : Int)) (fun k => by simp only [impl_shifted.l0]; rw [if_neg (by omega)]) (Ev.now _)
  | succ n ih =>
    intro x i hx hi
    have e1 : wrap64 ((i : Int) + 1) = ((i + 1 : Nat) : Int) := by rw [wrap_id (by omega) (by omega)]; omega
    have e2 : Go.bits .xor .i64 ((x / 2 : Nat) : Int) 2197175160 = (((x / 2) ^^^ 2197175160 : Nat) : Int) := xor_nat (a := x / 2) (b := 2197175160) (by omega) (by decide)
    have e4 := and_one (a := x) (by omega)
    refine Ev.step (f := fun k => impl_shifted.l0 k ((Crc.sh1 x : Nat) : Int) ((i + 1 : Nat) : Int)) (fun k => ?_) (ih _ _ (Crc.sh1_lt hx) (by omega))
    simp only [impl_shifted.l0, e1, half_nat, e2, e4, Crc.sh1]
    rw [if_pos (by omega)]
    by_cases h1 : x % 2 = 1
    · rw [if_pos (show ((x % 2 : Nat) : Int) = 1 by omega), if_pos h1]
    · rw [if_neg (show ¬ ((x % 2 : Nat) : Int) = 1 by omega), if_neg h1]
theorem impl_shifted_ev (x : Nat) (hx : x < 2 ^ 32) : Ev (fun k => impl_shifted.f k (x : Int)) ((Crc.shN 8 x : Nat) : Int) := impl_shifted_l0 8 x 0 hx rfl

theorem impl_turned_eq (x : Nat) (hx : x < 2 ^ 32) : impl_turned.f (x : Int) = some ((x ^^^ Crc.ones : Nat) : Int) := by
  have e : Go.bits .xor .i64 (x : Int) 4294967295 = ((x ^^^ Crc.ones : Nat) : Int) := xor_nat (a := x) (b := 4294967295) (by omega) (by decide)
  unfold impl_turned.f
  rw [e]

theorem impl_sumOn_l0 (s : ByteArray) (hs : s.size ≤ 140737488351232) : ∀ (d x i : Nat), x < 2 ^ 32 → i + d = s.size → Ev (fun k => impl_sumOn.l0 k (x : Int) s (s.size : Int) (i : Int)) ((Crc.crcL ((Crc.bl s).drop i) x ^^^ Crc.ones : Nat) : Int) := by
  intro d
  induction d with
  | zero =>
    intro x i hx hi
    obtain rfl : i = s.size := by omega
    rw [Crc.bl_end]
    exact Ev.step (f := fun _ => some ((x ^^^ Crc.ones : Nat) : Int)) (fun k => by simp only [impl_sumOn.l0]; rw [if_neg (by omega), impl_turned_eq x hx]; rfl) (Ev.now _)
  | succ d ih =>
    intro x i hx hi
    have hlt : i < s.size := by omega
    have e1 : wrap64 ((i : Int) + 1) = ((i + 1 : Nat) : Int) := by rw [wrap_id (by omega) (by omega)]; omega
    rw [Crc.bl_drop s i hlt]
    have hc : (Crc.bl s)[i]'(by rw [Crc.bl_length]; exact hlt) < 256 := Crc.bl_lt s _ (List.getElem_mem _)
    have e2 := Crc.bt_bl s i hlt
    generalize (Crc.bl s)[i]'(by rw [Crc.bl_length]; exact hlt) = c at hc e2 ⊢
    have e3 : wrap64 (bt s (i : Int)) = ((c : Nat) : Int) := by rw [e2]; exact wrap_id (by omega) (by omega)
    have e4 : Go.bits .xor .i64 (x : Int) (c : Int) = ((x ^^^ c : Nat) : Int) := xor_nat (by omega) (by omega)
    have hx' : x ^^^ c < 2 ^ 32 := Nat.xor_lt_two_pow hx (by omega)
    refine Ev.step (f := fun k => (impl_shifted.f k ((x ^^^ c : Nat) : Int)).bind fun t => impl_sumOn.l0 k t s (s.size : Int) ((i + 1 : Nat) : Int)) (fun k => ?_) ?_
    · simp only [impl_sumOn.l0, e1, e3, e4]
      rw [if_pos (by omega), if_pos (by omega), if_pos (by omega)]
    · exact Ev.bind (f := fun k t => impl_sumOn.l0 k t s (s.size : Int) ((i + 1 : Nat) : Int)) (impl_shifted_ev _ hx') (ih _ _ (Crc.shN_lt 8 hx') (by omega))
theorem impl_sumOn_ev (x : Nat) (s : ByteArray) (hs : s.size ≤ 140737488351232) (hx : x < 2 ^ 32) : Ev (fun k => impl_sumOn.f k (x : Int) s) ((Crc.sumL x (Crc.bl s) : Nat) : Int) := by
  unfold impl_sumOn.f
  simp only [impl_turned_eq x hx, Option.bind_some]
  exact impl_sumOn_l0 s hs s.size _ 0 (Nat.xor_lt_two_pow hx (by decide)) (by omega)

/-- What SumOn answers. -/
def sumOnV (a : Int) (s : ByteArray) : Int × Bool := if isS a && decide (s.size ≤ 400) then (((Crc.sumL a.toNat (Crc.bl s) : Nat) : Int), true) else (0, false)

theorem impl_SumOn_ev (a : Int) (s : ByteArray) (hs : s.size ≤ 140737488351232) : Ev (fun k => impl_SumOn.f k a s) (sumOnV a s) := by
  unfold impl_SumOn.f sumOnV
  simp only [impl_isSum_eq, impl_isSummed_eq, Option.bind_some]
  cases ha : isS a
  · exact Ev.now _
  · obtain ⟨x, rfl, hx⟩ := isS_nat ha
    by_cases h : s.size ≤ 400
    · have h' : isL (s.size : Int) = true := by simp only [isL, decide_eq_true_eq]; omega
      simp only [if_true, h', h, decide_true, Bool.and_self]
      exact Ev.bind (f := fun _ t => some (t, true)) (impl_sumOn_ev x s hs hx) (Ev.now _)
    · have h' : isL (s.size : Int) = false := by simp only [isL, decide_eq_false_iff_not]; omega
      simp only [if_true, h', h, decide_false, Bool.and_false]
      exact Ev.now _

theorem impl_SumOf_ev (s : ByteArray) (hs : s.size ≤ 140737488351232) : Ev (fun k => impl_SumOf.f k s) (sumOnV 0 s) :=
  Ev.bind (f := fun _ (b : Int × Bool) => some (b.1, b.2)) (impl_SumOn_ev 0 s hs) (Ev.now _)

theorem spec_DrawPatchSum_ex {s : List Int} (hs : BY s) : ∃ t a b, Ev (fun k => spec_DrawPatchSum.f k s) (t, a, b) ∧ t.size ≤ 1000 ∧ 0 ≤ a ∧ a ≤ 70000 ∧ b.size ≤ 100 := by
  obtain ⟨t, a1, d1, e1, h1, h2, h3⟩ := spec_l1Cur_text5_ex hs (a := 0) 0 (by omega) (by omega)
  obtain ⟨v, a2, d2, e2, h4, h5, h6, h7, h8⟩ := spec_l1Cur_pick_ex hs d1 (wrap64 ((t.size : Int) + 1)) h2 (by omega)
  obtain ⟨n, a3, d3, e3, h9, h10, h11⟩ := spec_l1Cur_of_ex hs d2 ([(⟨#[]⟩ : ByteArray), (⟨#[120]⟩ : ByteArray), (⟨#[120, 121, 122]⟩ : ByteArray), (⟨#[97, 32, 108, 111, 110, 103, 101, 114, 32, 116, 101, 120, 116]⟩ : ByteArray)] : List ByteArray) h7 (by omega) (by decide)
  have hn : n.size ≤ 100 := by
    simp only [List.mem_cons, List.not_mem_nil, or_false] at h9
    rcases h9 with rfl | rfl | rfl | rfl <;> decide
  refine ⟨t, v, n, ?_, h1, h4, by omega, hn⟩
  refine Ev.bind (f := fun k bt => (spec_l1Cur_pick.f s bt.2.1 bt.2.2 (wrap64 ((bt.1.size : Int) + 1))).bind fun bt196 => ((spec_l1Cur_of.f s bt196.2.1 bt196.2.2 (([(⟨#[]⟩ : ByteArray), (⟨#[120]⟩ : ByteArray), (⟨#[120, 121, 122]⟩ : ByteArray), (⟨#[97, 32, 108, 111, 110, 103, 101, 114, 32, 116, 101, 120, 116]⟩ : ByteArray)] : List ByteArray))).bind fun bt202 => (some (bt.1, bt196.1, bt202.1)))) e1 ?_
  simp only [e2, e3, Option.bind_some]
  exact Ev.now _

/-- The text that PatchSum makes. -/
def patchT (s : ByteArray) (n : Nat) (w : ByteArray) : ByteArray := (s.extract 0 n ++ w) ++ s.extract (n + w.size) s.size
/-- What PatchSum answers. -/
def patchV (s : ByteArray) (n : Int) (w : ByteArray) : ByteArray × Int × Bool :=
  if s.size ≤ 400 ∧ 0 ≤ n ∧ n + (w.size : Int) ≤ (s.size : Int) then (patchT s n.toNat w, ((Crc.sumL 0 (Crc.bl (patchT s n.toNat w)) : Nat) : Int), true) else ((⟨#[]⟩ : ByteArray), 0, false)
theorem patchT_size (s w : ByteArray) (n : Nat) (h : n + w.size ≤ s.size) : (patchT s n w).size = s.size := by
  unfold patchT
  simp only [ByteArray.size_append, ByteArray.size_extract]
  omega

theorem impl_PatchSum_ev (s w : ByteArray) (n : Int) (hs : s.size ≤ 1048576) (hw : w.size ≤ 1048576) (hn : -9223372036854775808 ≤ n ∧ n ≤ 9223372036854775807) : Ev (fun k => impl_PatchSum.f k s n w) (patchV s n w) := by
  unfold impl_PatchSum.f patchV
  have e1 : wrap64 ((s.size : Int) - (w.size : Int)) = (s.size : Int) - (w.size : Int) := wrap_id (by omega) (by omega)
  simp only [impl_isSummed_eq, impl_within_eq, Option.bind_some, e1]
  by_cases h1 : s.size ≤ 400
  · have h1' : isL (s.size : Int) = true := by simp only [isL, decide_eq_true_eq]; omega
    simp only [h1', if_true]
    by_cases h2 : 0 ≤ n ∧ n ≤ (s.size : Int) - (w.size : Int)
    · obtain ⟨m, rfl⟩ := nat_of h2.1
      have e2 : wrap64 ((m : Int) + (w.size : Int)) = ((m + w.size : Nat) : Int) := by rw [wrap_id (by omega) (by omega)]; omega
      have hz := patchT_size s w m (by omega)
      have z1 : (s.extract 0 m).size + w.size ≤ 9223372036854775807 := by simp only [ByteArray.size_extract]; omega
      have z2 : (s.extract 0 m ++ w).size + (s.extract (m + w.size) s.size).size ≤ 9223372036854775807 := by simp only [ByteArray.size_append, ByteArray.size_extract]; omega
      simp only [decide_eq_true h2, if_true, e2, Int.toNat_natCast, if_pos (show (0 : Int) ≤ (m : Int) by omega), if_pos (show (m : Int) ≤ (s.size : Int) by omega), if_pos (show (0 : Int) ≤ ((m + w.size : Nat) : Int) by omega), if_pos (show ((m + w.size : Nat) : Int) ≤ (s.size : Int) by omega), if_pos z1, if_pos z2]
      rw [if_pos ⟨h1, by omega⟩]
      exact Ev.bind (f := fun _ t => some (patchT s m w, t, true)) (impl_sumOn_ev 0 (patchT s m w) (by omega) (by decide)) (Ev.now _)
    · rw [if_neg (show ¬ (s.size ≤ 400 ∧ 0 ≤ n ∧ n + (w.size : Int) ≤ (s.size : Int)) from fun h => h2 ⟨h.2.1, by omega⟩)]
      simp only [decide_eq_false h2]
      exact Ev.now _
  · have h1' : isL (s.size : Int) = false := by simp only [isL, decide_eq_false_iff_not]; omega
    simp only [h1']
    rw [if_neg (show ¬ (s.size ≤ 400 ∧ 0 ≤ n ∧ n + (w.size : Int) ≤ (s.size : Int)) from fun h => h1 h.1)]
    exact Ev.now _

theorem spec_l5Byte_l0 : ∀ (n x i : Nat), x < 2 ^ 32 → n + i = 8 → Ev (fun k => spec_l5Byte.l0 k (x : Int) (i : Int)) ((Crc.shN n x : Nat) : Int) := by
  intro n
  induction n with
  | zero =>
    intro x i _ hi
    obtain rfl : i = 8 := by omega
    exact Ev.step (f := fun _ => some ((x : Nat) : Int)) (fun k => by simp only [spec_l5Byte.l0]; rw [if_neg (by omega)]) (Ev.now _)
  | succ n ih =>
    intro x i hx hi
    have e1 : wrap64 ((i : Int) + 1) = ((i + 1 : Nat) : Int) := by rw [wrap_id (by omega) (by omega)]; omega
    have e2 : Go.bits .xor .i64 ((x / 2 : Nat) : Int) 2197175160 = (((x / 2) ^^^ 2197175160 : Nat) : Int) := xor_nat (a := x / 2) (b := 2197175160) (by omega) (by decide)
    have e4 := and_one (a := x) (by omega)
    refine Ev.step (f := fun k => spec_l5Byte.l0 k ((Crc.sh1 x : Nat) : Int) ((i + 1 : Nat) : Int)) (fun k => ?_) (ih _ _ (Crc.sh1_lt hx) (by omega))
    simp only [spec_l5Byte.l0, e1, half_nat, e2, e4, Crc.sh1]
    rw [if_pos (by omega)]
    by_cases h1 : x % 2 = 1
    · rw [if_pos (show ((x % 2 : Nat) : Int) = 1 by omega), if_pos h1]
    · rw [if_neg (show ¬ ((x % 2 : Nat) : Int) = 1 by omega), if_neg h1]
theorem spec_l5Byte_ev (x : Nat) (hx : x < 2 ^ 32) : Ev (fun k => spec_l5Byte.f k (x : Int)) ((Crc.shN 8 x : Nat) : Int) := spec_l5Byte_l0 8 x 0 hx rfl

theorem spec_l5On_l0 (s : ByteArray) (hs : s.size ≤ 140737488351232) : ∀ (d x i : Nat), x < 2 ^ 32 → i + d = s.size → Ev (fun k => spec_l5On.l0 k (x : Int) s (i : Int)) ((Crc.crcL ((Crc.bl s).drop i) x ^^^ Crc.ones : Nat) : Int) := by
  intro d
  induction d with
  | zero =>
    intro x i hx hi
    obtain rfl : i = s.size := by omega
    have e : Go.bits .xor .i64 (x : Int) 4294967295 = ((x ^^^ Crc.ones : Nat) : Int) := xor_nat (a := x) (b := 4294967295) (by omega) (by decide)
    rw [Crc.bl_end]
    exact Ev.step (f := fun _ => some ((x ^^^ Crc.ones : Nat) : Int)) (fun k => by simp only [spec_l5On.l0]; rw [if_neg (by omega), e]) (Ev.now _)
  | succ d ih =>
    intro x i hx hi
    have hlt : i < s.size := by omega
    have e1 : wrap64 ((i : Int) + 1) = ((i + 1 : Nat) : Int) := by rw [wrap_id (by omega) (by omega)]; omega
    rw [Crc.bl_drop s i hlt]
    have hc : (Crc.bl s)[i]'(by rw [Crc.bl_length]; exact hlt) < 256 := Crc.bl_lt s _ (List.getElem_mem _)
    have e2 := Crc.bt_bl s i hlt
    generalize (Crc.bl s)[i]'(by rw [Crc.bl_length]; exact hlt) = c at hc e2 ⊢
    have e3 : wrap64 (bt s (i : Int)) = ((c : Nat) : Int) := by rw [e2]; exact wrap_id (by omega) (by omega)
    have e4 : Go.bits .xor .i64 (x : Int) (c : Int) = ((x ^^^ c : Nat) : Int) := xor_nat (by omega) (by omega)
    have hx' : x ^^^ c < 2 ^ 32 := Nat.xor_lt_two_pow hx (by omega)
    refine Ev.step (f := fun k => (spec_l5Byte.f k ((x ^^^ c : Nat) : Int)).bind fun t => spec_l5On.l0 k t s ((i + 1 : Nat) : Int)) (fun k => ?_) ?_
    · simp only [spec_l5On.l0, e1, e3, e4]
      rw [if_pos (by omega), if_pos (by omega)]
    · exact Ev.bind (f := fun k t => spec_l5On.l0 k t s ((i + 1 : Nat) : Int)) (spec_l5Byte_ev _ hx') (ih _ _ (Crc.shN_lt 8 hx') (by omega))
theorem spec_l5On_ev (x : Nat) (s : ByteArray) (hs : s.size ≤ 140737488351232) (hx : x < 2 ^ 32) : Ev (fun k => spec_l5On.f k (x : Int) s) ((Crc.sumL x (Crc.bl s) : Nat) : Int) := by
  have e : Go.bits .xor .i64 (x : Int) 4294967295 = ((x ^^^ Crc.ones : Nat) : Int) := xor_nat (a := x) (b := 4294967295) (by omega) (by decide)
  unfold spec_l5On.f
  rw [e]
  exact spec_l5On_l0 s hs s.size _ 0 (Nat.xor_lt_two_pow hx (by decide)) (by omega)

theorem spec_PatchSum_ev (s w : ByteArray) (n : Int) (hs : s.size ≤ 1048576) (hw : w.size ≤ 1048576) (hn : -9223372036854775808 ≤ n ∧ n ≤ 9223372036854775807) : Ev (fun k => spec_PatchSum.f k s n w) (patchV s n w) := by
  unfold spec_PatchSum.f patchV
  by_cases h1 : s.size ≤ 400
  · simp only [if_neg (show ¬ (s.size : Int) > 400 by omega)]
    by_cases h2 : 0 ≤ n
    · simp only [if_neg (show ¬ n < 0 by omega)]
      obtain ⟨m, rfl⟩ := nat_of h2
      by_cases h3 : m ≤ s.size
      · have e1 : wrap64 ((s.size : Int) - (m : Int)) = ((s.size - m : Nat) : Int) := by rw [wrap_id (by omega) (by omega)]; omega
        have e2 : wrap64 ((m : Int) + (w.size : Int)) = ((m + w.size : Nat) : Int) := by rw [wrap_id (by omega) (by omega)]; omega
        simp only [if_neg (show ¬ (m : Int) > (s.size : Int) by omega), e1]
        by_cases h4 : m + w.size ≤ s.size
        · have hz := patchT_size s w m h4
          have z1 : (s.extract 0 m).size + w.size ≤ 9223372036854775807 := by simp only [ByteArray.size_extract]; omega
          have z2 : (s.extract 0 m ++ w).size + (s.extract (m + w.size) s.size).size ≤ 9223372036854775807 := by simp only [ByteArray.size_append, ByteArray.size_extract]; omega
          simp only [if_neg (show ¬ (w.size : Int) > ((s.size - m : Nat) : Int) by omega), if_pos (show (0 : Int) ≤ (m : Int) by omega), if_pos (show (m : Int) ≤ (s.size : Int) by omega), e2, if_pos (show (0 : Int) ≤ ((m + w.size : Nat) : Int) by omega), if_pos (show ((m + w.size : Nat) : Int) ≤ (s.size : Int) by omega), Int.toNat_natCast, if_pos z1, if_pos z2]
          rw [if_pos ⟨h1, h2, by omega⟩]
          exact Ev.bind (f := fun _ t => some (patchT s m w, t, true)) (spec_l5On_ev 0 (patchT s m w) (by omega) (by decide)) (Ev.now _)
        · simp only [if_pos (show (w.size : Int) > ((s.size - m : Nat) : Int) by omega)]
          rw [if_neg (fun h => h4 (by omega))]
          exact Ev.now _
      · simp only [if_pos (show (m : Int) > (s.size : Int) by omega)]
        rw [if_neg (fun h => h3 (by omega))]
        exact Ev.now _
    · simp only [if_pos (show n < 0 by omega)]
      rw [if_neg (fun h => h2 h.2.1)]
      exact Ev.now _
  · simp only [if_pos (show (s.size : Int) > 400 by omega)]
    rw [if_neg (fun h => h1 h.1)]
    exact Ev.now _

theorem bytes_ext {a b : ByteArray} (h : a.toList = b.toList) : a = b := by
  rw [Go.ByteArray.toList_eq, Go.ByteArray.toList_eq] at h
  cases a; cases b
  simp only [ByteArray.mk.injEq]
  exact Array.toList_inj.1 h

theorem bl_str {l : List Nat} (h : Burst.Bs l) : Crc.bl (strOfNums (nl l)) = l := by
  unfold Crc.bl
  rw [strOfNums_data]
  unfold nl
  rw [List.map_map, List.map_map]
  conv => rhs; rw [← List.map_id l]
  apply List.map_congr_left
  intro x hx
  show (UInt8.ofNat ((x : Int).toNat)).toNat = x
  rw [Int.toNat_natCast]
  simp [Nat.mod_eq_of_lt (h x hx)]
theorem bl_inj {a b : ByteArray} (h : Crc.bl a = Crc.bl b) : a = b := by
  unfold Crc.bl at h
  have h2 := (List.map_inj_right (fun x y hxy => UInt8.toNat_inj.1 hxy)).1 h
  cases a; cases b
  simp only [ByteArray.mk.injEq]
  exact Array.toList_inj.1 h2
theorem str_bl (s : ByteArray) : strOfNums (nl (Crc.bl s)) = s := bl_inj (bl_str (Crc.bl_lt s))
theorem shN_shs : ∀ n x, Crc.shN n x = Burst.shs n x
  | 0, _ => rfl
  | n + 1, x => shN_shs n (Burst.sh x)
theorem crc_same : ∀ (l : List Nat) (x : Nat), Crc.crcL l x = Burst.crc l x
  | [], _ => rfl
  | c :: l, x => by
    show Crc.crcL l (Crc.shN 8 (x ^^^ c)) = Burst.crc l (Burst.shs 8 (x ^^^ c))
    rw [shN_shs, crc_same l]
/-- The text with a burst. -/
def burstT (s : ByteArray) (p c : Nat) : ByteArray := strOfNums (nl (Burst.burst 32 (Crc.bl s) p c))
theorem burstT_bl (s : ByteArray) (p c : Nat) : Crc.bl (burstT s p c) = Burst.burst 32 (Crc.bl s) p c := bl_str (Burst.burst_bytes 32 p c (Crc.bl_lt s))
theorem burstT_size (s : ByteArray) (p c : Nat) : (burstT s p c).size = s.size := by rw [← Crc.bl_length, burstT_bl, Burst.burst_length, Crc.bl_length]
theorem burstT_back (s : ByteArray) {p c : Nat} (hc : c < 2 ^ 32) (hp : p ≤ 8 * s.size) : burstT (burstT s p c) p c = s := by
  apply bl_inj
  rw [burstT_bl, burstT_bl]
  exact Burst.burst_twice (Crc.bl_lt s) hc (by rw [Crc.bl_length]; exact hp)
/-- A burst that changes anything changes the sum. -/
theorem burstT_sum (s : ByteArray) {p c : Nat} (hc : c < 2 ^ 32) (hp : p ≤ 8 * s.size) : Crc.sumL 0 (Crc.bl s) = Crc.sumL 0 (Crc.bl (burstT s p c)) ↔ s = burstT s p c := by
  have h := Burst.burst_sum (Crc.bl_lt s) hc (by rw [Crc.bl_length]; exact hp) (0 ^^^ Crc.ones)
  constructor
  · intro e
    unfold Crc.sumL at e
    have e2 := congrArg (fun z => z ^^^ Crc.ones) e
    simp only [Nat.xor_assoc, Nat.xor_self, Nat.xor_zero] at e2
    rw [crc_same, crc_same, burstT_bl] at e2
    simp only [Nat.zero_xor] at h
    exact bl_inj ((h.1 e2).trans (burstT_bl s p c).symm)
  · intro e
    rw [← e]
theorem burstV_yes {s : ByteArray} {p c : Nat} (h : s.size ≤ 400) (hp : p < 8 * s.size) (hc : c < 2 ^ 32) : burstV s (p : Int) (c : Int) = (burstT s p c, true) := by
  unfold burstV
  rw [if_pos ⟨⟨h, by omega, by omega⟩, by unfold isS; exact decide_eq_true (by omega)⟩, Int.toNat_natCast, Int.toNat_natCast]
  rfl

theorem burI_c (s : ByteArray) (a b : Int) (t : ByteArray) (q : Bool) (hs : s.size ≤ 1048576) (ha : a ≤ 9223372036854775807) (h : burstV s a b = (t, q)) (w : World) : Calls Try.prog 16 #[.string s, .int .i64 a, .int .i64 b] w fun e w' => e = .returned (.tuple #[.string t, .bool q]) ∧ Below w.heap.size w w' := by
  obtain ⟨K, hK⟩ := (impl_BurstAt_ev s (by omega) a b ha).rounds
  rw [h] at hK
  exact (impl_BurstAt.calls K s a b t q w hK).mono fun e w' h => h
theorem burS_c (s : ByteArray) (a b : Int) (t : ByteArray) (q : Bool) (hs : s.size ≤ 1048576) (h : burstV s a b = (t, q)) (w : World) : Calls Try.prog 17 #[.string s, .int .i64 a, .int .i64 b] w fun e w' => e = .returned (.tuple #[.string t, .bool q]) ∧ Below w.heap.size w w' := by
  obtain ⟨K, hK⟩ := (spec_BurstAt_ev s (by omega) a b).rounds
  rw [h] at hK
  exact (spec_BurstAt.calls K s a b t q w hK).mono fun e w' h => h

theorem sumOf_c (s : ByteArray) (hs : s.size ≤ 400) (w : World) : Calls Try.prog 18 #[.string s] w fun e w' => e = .returned (.tuple #[.int .i64 ((Crc.sumL 0 (Crc.bl s) : Nat) : Int), .bool true]) ∧ Below w.heap.size w w' := by
  obtain ⟨K, hK⟩ := (impl_SumOf_ev s (by omega)).rounds
  have h : sumOnV 0 s = (((Crc.sumL 0 (Crc.bl s) : Nat) : Int), true) := by
    unfold sumOnV
    rw [show isS 0 = true from rfl, decide_eq_true hs]; rfl
  rw [h] at hK
  exact (impl_SumOf.calls K s _ _ w hK).mono fun e w' ⟨he, hd⟩ => ⟨he, hd.below⟩

theorem patI_c (s : ByteArray) (a : Int) (v : ByteArray) (t : ByteArray) (n : Int) (q : Bool) (hs : s.size ≤ 1048576) (hv : v.size ≤ 1048576) (ha : -9223372036854775808 ≤ a ∧ a ≤ 9223372036854775807) (h : patchV s a v = (t, n, q)) (w : World) : Calls Try.prog 20 #[.string s, .int .i64 a, .string v] w fun e w' => e = .returned (.tuple #[.string t, .int .i64 n, .bool q]) ∧ Below w.heap.size w w' := by
  obtain ⟨K, hK⟩ := (impl_PatchSum_ev s v a hs hv ha).rounds
  rw [h] at hK
  exact (impl_PatchSum.calls K s a v t n q w hK).mono fun e w' ⟨he, hd⟩ => ⟨he, hd.below⟩
theorem patS_c (s : ByteArray) (a : Int) (v : ByteArray) (t : ByteArray) (n : Int) (q : Bool) (hs : s.size ≤ 1048576) (hv : v.size ≤ 1048576) (ha : -9223372036854775808 ≤ a ∧ a ≤ 9223372036854775807) (h : patchV s a v = (t, n, q)) (w : World) : Calls Try.prog 21 #[.string s, .int .i64 a, .string v] w fun e w' => e = .returned (.tuple #[.string t, .int .i64 n, .bool q]) ∧ Below w.heap.size w w' := by
  obtain ⟨K, hK⟩ := (spec_PatchSum_ev s v a hs hv ha).rounds
  rw [h] at hK
  exact (spec_PatchSum.calls K s a v t n q w hK).mono fun e w' ⟨he, hd⟩ => ⟨he, hd.below⟩

set_option maxHeartbeats 4000000 in
set_option maxRecDepth 100000 in
theorem laws_FnBursts_calls (A0 : Option Addr) (c0 : Nat) (l0 : List Int) (A1 : Option Addr) (c1 : Nat) (l1 : List Int) (w : World) (hr0 : (Kd.int .u8).C w A0 l0.length l0) (hc0 : l0.length ≤ c0) (y0 : l0.length * 1 ≤ 140737488351232) (hw0 : ∀ x ∈ l0, (Lit.int .u8 x).wf = true)
    (hr1 : (Kd.int .u8).C w A1 l1.length l1) (hc1 : l1.length ≤ c1) (y1 : l1.length * 1 ≤ 140737488351232) (hw1 : ∀ x ∈ l1, (Lit.int .u8 x).wf = true) :
    Calls Try.prog 3 #[.slice A0 l0.length c0, .slice A1 l1.length c1] w fun e w' => e = .returned (.bool true) ∧ Below w.heap.size w w' := by
  have HB := Aside0.mk (Below.refl w.heap.size w)
  have HR1 := Aside0.mk hr1
  have HC0 := Aside0.mk hc0
  have HC1 := Aside0.mk hc1
  by_cases hlen : l0.length + l1.length ≤ 1048576
  rotate_left
  · clear hr0 hr1 hc0 hc1
    go_enter Try.func3, Try.ntmps3
    go_wp2
    go_ret
    exact ⟨rfl, HB.out⟩
  obtain ⟨s, a, b, hd1, hs1, ha1⟩ := spec_DrawBurstAt_ex (wf_BY hw0)
  obtain ⟨u, k, v, hd2, hu1, hk0, hk1, hv1⟩ := spec_DrawPatchSum_ex (wf_BY hw1)
  obtain ⟨K1, hd1⟩ := hd1.rounds
  obtain ⟨K2, hd2⟩ := hd2.rounds
  have cD1 := fun w (h : (Kd.int .u8).C w A0 l0.length l0) => spec_DrawBurstAt.calls K1 A0 c0 l0 s a b w h HC0.out hd1
  have cD2 := fun w (h : (Kd.int .u8).C w A1 l1.length l1) => spec_DrawPatchSum.calls K2 A1 c1 l1 u k v w h HC1.out hd2
  clear hd1 hd2 hw0 hw1 hr1 hc0 hc1
  have HR0 := Aside0.mk hr0
  clear hr0
  obtain ⟨t, q, hm⟩ : ∃ p q, burstV s a b = (p, q) := ⟨_, _, rfl⟩
  have x1 : (q != q) = false := by simp
  have cb1 := burI_c s a b t q (by omega) (by omega) hm
  have cb2 := burS_c s a b t q (by omega) hm
  go_enter Try.func3, Try.ntmps3
  go_wp2_with fail
  refine (cD1 _ HR0.out).mono ?_
  rintro e w1 ⟨rfl, hb⟩
  replace HB := Aside0.mk hb
  replace HR1 := Aside0.mk (Kd.C_below HR1.out hb)
  clear hb HR0
  go_wp2_with fail
  (with_reducible refine (cb1 _).mono ?_)
  rintro e w101 ⟨rfl, hb⟩
  replace HB := Aside0.mk (HB.out.trans (hb.mono HB.out.size))
  replace HR1 := Aside0.mk (Kd.C_below HR1.out hb)
  clear hb
  go_wp2_with fail
  (with_reducible refine (cb2 _).mono ?_)
  rintro e w102 ⟨rfl, hb⟩
  replace HB := Aside0.mk (HB.out.trans (hb.mono HB.out.size))
  replace HR1 := Aside0.mk (Kd.C_below HR1.out hb)
  clear hb
  go_upto_if 63 with (fail)
  go_cut [] (fun wc => Aside0 (Below w.heap.size w wc) ∧ Aside0 ((Kd.int .u8).C wc A1 l1.length l1))
  case first =>
    as_aux_lemma =>
      by_cases hv : (s.size ≤ 400 ∧ 0 ≤ a ∧ a < 8 * (s.size : Int)) ∧ isS b = true
      rotate_left
      · have hq : burstV s a b = (⟨#[]⟩, false) := if_neg hv
        rw [hm] at hq
        injection hq with hq1 hq2
        subst hq1 hq2
        clear hm cb1 cb2 cD1 cD2
        go_wp2
        go_meet
        exact ⟨HB, HR1⟩
      obtain ⟨⟨hs4, ha0, ha8⟩, hb2⟩ := hv
      obtain ⟨y, rfl, hy⟩ := isS_nat hb2
      obtain ⟨x, rfl⟩ := nat_of ha0
      have hx : x < 8 * s.size := by omega
      have hq := hm.symm.trans (burstV_yes hs4 hx hy)
      injection hq with hq1 hq2
      subst hq1 hq2
      have hsz := burstT_size s x y
      have hbk := burstT_back s (p := x) (c := y) hy (by omega)
      have hsm := burstT_sum s (p := x) (c := y) hy (by omega)
      have cs1 := sumOf_c s hs4
      have cs2 := sumOf_c (burstT s x y) (by omega)
      have cb3 := burI_c (burstT s x y) (x : Int) (y : Int) s true (by omega) (by omega) (by rw [burstV_yes (by omega) (by omega) hy, hbk])
      generalize burstT s x y = t at *
      by_cases hst : s = t
      · subst hst
        clear hm cb1 cb2 cD1 cD2 hsz hbk hsm cs2
        as_aux_lemma =>
          go_wp2_with fail
          (with_reducible refine (cs1 _).mono ?_)
          rintro e w103 ⟨rfl, hb⟩
          replace HB := Aside0.mk (HB.out.trans (hb.mono HB.out.size))
          replace HR1 := Aside0.mk (Kd.C_below HR1.out hb)
          clear hb
          go_wp2_with fail
          (with_reducible refine (cs1 _).mono ?_)
          rintro e w104 ⟨rfl, hb⟩
          replace HB := Aside0.mk (HB.out.trans (hb.mono HB.out.size))
          replace HR1 := Aside0.mk (Kd.C_below HR1.out hb)
          clear hb
          go_wp2_with fail
          (with_reducible refine (cb3 _).mono ?_)
          rintro e w105 ⟨rfl, hb⟩
          replace HB := Aside0.mk (HB.out.trans (hb.mono HB.out.size))
          replace HR1 := Aside0.mk (Kd.C_below HR1.out hb)
          clear hb
          go_wp2
          go_meet
          exact ⟨HB, HR1⟩
      · have hne : ¬ Crc.sumL 0 (Crc.bl s) = Crc.sumL 0 (Crc.bl t) := fun h => hst (hsm.1 h)
        have f1 : (((Crc.sumL 0 (Crc.bl s) : Nat) : Int) == ((Crc.sumL 0 (Crc.bl t) : Nat) : Int)) = false := by
          rw [beq_eq_false_iff_ne]; omega
        have f2 : decide (s.toList = t.toList) = false := decide_eq_false (fun h => hst (bytes_ext h))
        have f3 : (s.toList == t.toList) = false := by
          rw [beq_eq_false_iff_ne]; exact fun h => hst (bytes_ext h)
        have f4 : ((t.size : Int) == (s.size : Int)) = true := by rw [hsz]; exact beq_self_eq_true _
        have f5 : decide (Crc.sumL 0 (Crc.bl s) = Crc.sumL 0 (Crc.bl t)) = false := decide_eq_false hne
        have HSZ := Aside0.mk hsz
        clear hm cb1 cb2 cD1 cD2 hbk hsm hne hst hsz
        as_aux_lemma =>
          go_wp2_with fail
          (with_reducible refine (cs1 _).mono ?_)
          rintro e w106 ⟨rfl, hb⟩
          replace HB := Aside0.mk (HB.out.trans (hb.mono HB.out.size))
          replace HR1 := Aside0.mk (Kd.C_below HR1.out hb)
          clear hb
          go_wp2_with fail
          (with_reducible refine (cs2 _).mono ?_)
          rintro e w107 ⟨rfl, hb⟩
          replace HB := Aside0.mk (HB.out.trans (hb.mono HB.out.size))
          replace HR1 := Aside0.mk (Kd.C_below HR1.out hb)
          clear hb
          go_wp2_with fail
          (with_reducible refine (cb3 _).mono ?_)
          rintro e w108 ⟨rfl, hb⟩
          replace HB := Aside0.mk (HB.out.trans (hb.mono HB.out.size))
          replace HR1 := Aside0.mk (Kd.C_below HR1.out hb)
          clear hb
          have hsz := HSZ.out
          go_wp2
          go_meet
          exact ⟨HB, HR1⟩
  case rest =>
    clear HB HR1
    obtain ⟨HB, HR1⟩ := hcut
    obtain ⟨p, n, q2, hp⟩ : ∃ p n q, patchV u k v = (p, n, q) := ⟨_, _, _, rfl⟩
    have x2 : (q2 != q2) = false := by simp
    have cp1 := patI_c u k v p n q2 (by omega) (by omega) (by omega) hp
    have cp2 := patS_c u k v p n q2 (by omega) (by omega) (by omega) hp
    go_wp2_with fail
    refine (cD2 _ HR1.out).mono ?_
    rintro e w130 ⟨rfl, hb⟩
    replace HB := Aside0.mk (HB.out.trans (hb.mono HB.out.size))
    replace HR1 := Aside0.mk (Kd.C_below HR1.out hb)
    clear hb
    go_wp2_with fail
    (with_reducible refine (cp1 _).mono ?_)
    rintro e w109 ⟨rfl, hb⟩
    replace HB := Aside0.mk (HB.out.trans (hb.mono HB.out.size))
    replace HR1 := Aside0.mk (Kd.C_below HR1.out hb)
    clear hb
    go_wp2_with fail
    (with_reducible refine (cp2 _).mono ?_)
    rintro e w110 ⟨rfl, hb⟩
    replace HB := Aside0.mk (HB.out.trans (hb.mono HB.out.size))
    replace HR1 := Aside0.mk (Kd.C_below HR1.out hb)
    clear hb
    clear cp1 cp2 cb1 cb2 cD1 cD2
    as_aux_lemma =>
      by_cases hv : u.size ≤ 400 ∧ 0 ≤ k ∧ k + (v.size : Int) ≤ (u.size : Int)
      rotate_left
      · have hq : patchV u k v = (⟨#[]⟩, 0, false) := if_neg hv
        rw [hp] at hq
        injection hq with hq1 hq2
        injection hq2 with hq2 hq3
        subst hq1 hq2 hq3
        clear hp
        go_wp2
        go_ret
        exact ⟨rfl, HB.out⟩
      have hq : patchV u k v = (patchT u k.toNat v, ((Crc.sumL 0 (Crc.bl (patchT u k.toNat v)) : Nat) : Int), true) := if_pos hv
      have hz := patchT_size u v k.toNat (by omega)
      rw [hp] at hq
      injection hq with hq1 hq2
      injection hq2 with hq2 hq3
      subst hq1 hq2 hq3
      generalize patchT u k.toNat v = pp at *
      have cs := sumOf_c pp (by omega)
      clear hp
      have HZ := Aside0.mk hz
      clear hz
      go_wp2_with fail
      (with_reducible refine (cs _).mono ?_)
      rintro e w111 ⟨rfl, hb⟩
      replace HB := Aside0.mk (HB.out.trans (hb.mono HB.out.size))
      replace HR1 := Aside0.mk (Kd.C_below HR1.out hb)
      clear hb
      have hz := HZ.out
      go_wp2
      go_ret
      exact ⟨by first | rfl | simp, HB.out⟩

end Go.Proofs.Ytekadhniinpdfaa.Pure
