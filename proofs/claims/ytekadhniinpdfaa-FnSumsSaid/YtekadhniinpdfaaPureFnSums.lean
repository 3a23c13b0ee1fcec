/- The sum of two texts is put together from theirs, and goes on from where it stopped: for all bytes that are drawn from. No conditions beyond the row's own. -/
import Derived.Test.YtekadhniinpdfaaMFnSumsx4
import Derived.Test.YtekadhniinpdfaaBit
import Derived.Test.YtekadhniinpdfaaCrc
import Derived.Test.YtekadhniinpdfaaBurst
set_option linter.unusedVariables false
set_option linter.unusedSimpArgs false
namespace Go.Proofs.Ytekadhniinpdfaa.Pure
open Go.RowKit Go.Proofs.Ytekadhniinpdfaa Go.Proofs.Ytekadhniinpdfaa.MFnSums Go.Proofs.YtekadhniinpdfaaW.PrintWords Go.Proofs.YtekadhniinpdfaaW.PrintLast Go.Proofs.Ytekadhniinpdfaa.Bit

theorem impl_within_eq (a b c : Int) : impl_within.f a b c = some (decide (b ≤ a ∧ a ≤ c)) := by
  unfold impl_within.f
  by_cases h : a ≥ b
  · rw [if_pos h]; congr 1; simp [show b ≤ a from h]
  · rw [if_neg h]; congr 1; simp; omega

/-- Is a number of 32 bits? -/
def isS (a : Int) : Bool := decide (0 ≤ a ∧ a ≤ 4294967295)
theorem isS_nat {a : Int} (h : isS a = true) : ∃ n : Nat, a = (n : Int) ∧ n < 2 ^ 32 := by
  simp only [isS, decide_eq_true_eq] at h
  exact ⟨a.toNat, by omega, by omega⟩
def isL (a : Int) : Bool := decide (0 ≤ a ∧ a ≤ 400)
theorem isL_nat {a : Int} (h : isL a = true) : ∃ n : Nat, a = (n : Int) ∧ n ≤ 400 := by
  simp only [isL, decide_eq_true_eq] at h
  exact ⟨a.toNat, by omega, by omega⟩

theorem impl_isSummed_eq (a : Int) : impl_isSummed.f a = some (isL a) := by
  unfold impl_isSummed.f; rw [impl_within_eq]; rfl

theorem impl_isSum_eq (a : Int) : impl_isSum.f a = some (isS a) := by
  unfold impl_isSum.f; rw [impl_within_eq]; rfl

theorem impl_shifted_l0 : ∀ (n x i : Nat), x < 2 ^ 32 → n + i = 8 → Ev (fun k => impl_shifted.l0 k (x : Int) (i : Int)) ((Crc.shN n x : Nat) : Int) := by
  intro n
  induction n with
  | zero =>
    intro x i _ hi
    obtain rfl : i = 8 := by omega
    exact Ev.step (f := fun _ => some ((x : Nat) : Int)) (fun k => by simp only [impl_shifted.l0]; rw [if_neg (by omega)]) (Ev.now _)
  | succ n ih =>
    intro x i hx hi
    have e1 : wrap64 ((i : Int) + 1) = ((i + 1 : Nat) : Int) := by rw [wrap_id (by omega) (by omega)]; omega
    have e2 : Go.bits .xor .i64 ((x / 2 : Nat) : Int) 2197175160 = (((x / 2) ^^^ 2197175160 : Nat) : Int) := xor_nat (a := x / 2) (b := 2197175160) (by omega) (by decide)
    have e4 := and_one (a := x) (by omega)
    refine Ev.step (f := fun k => impl_shifted.l0 k ((Crc.sh1 x : Nat) : Int) ((i + 1 : Nat) : Int)) (fun k => ?_) (ih _ _ (Crc.sh1_lt hx) (by omega))
    simp only [impl_shifted.l0, e1, half_nat, e2, e4, Crc.sh1]
    rw [if_pos (by omega)]
    by_cases h1 : x % 2 = 1
    · rw [if_pos (show ((x % 2 : Nat) : Int) = 1 by omega), if_pos h1]
    · rw [if_neg (show ¬ ((x % 2 : Nat) : Int) = 1 by omega), if_neg h1]
theorem impl_shifted_ev (x : Nat) (hx : x < 2 ^ 32) : Ev (fun k => impl_shifted.f k (x : Int)) ((Crc.shN 8 x : Nat) : Int) := impl_shifted_l0 8 x 0 hx rfl

theorem impl_turned_eq (x : Nat) (hx : x < 2 ^ 32) : impl_turned.f (x : Int) = some ((x ^^^ Crc.ones : Nat) : Int) := by
  have e : Go.bits .xor .i64 (x : Int) 4294967295 = ((x ^^^ Crc.ones : Nat) : Int) := xor_nat (a := x) (b := 4294967295) (by omega) (by decide)
  unfold impl_turned.f
  rw [e]

theorem impl_sumOn_l0 (s : ByteArray) (hs : s.size ≤ 140737488351232) : ∀ (d x i : Nat), x < 2 ^ 32 → i + d = s.size → Ev (fun k => impl_sumOn.l0 k (x : Int) s (s.size : Int) (i : Int)) ((Crc.crcL ((Crc.bl s).drop i) x ^^^ Crc.ones : Nat) : Int) := by
  intro d
  induction d with
  | zero =>
    intro x i hx hi
    obtain rfl : i = s.size := by omega
    rw [Crc.bl_end]
    exact Ev.step (f := fun _ => some ((x ^^^ Crc.ones : Nat) : Int)) (fun k => by simp only [impl_sumOn.l0]; rw [if_neg (by omega), impl_turned_eq x hx]; rfl) (Ev.now _)
  | succ d ih =>
    intro x i hx hi
    have hlt : i < s.size := by omega
    have e1 : wrap64 ((i : Int) + 1) = ((i + 1 : Nat) : Int) := by rw [wrap_id (by omega) (by omega)]; omega
    rw [Crc.bl_drop s i hlt]
    have hc : (Crc.bl s)[i]'(by rw [Crc.bl_length]; exact hlt) < 256 := Crc.bl_lt s _ (List.getElem_mem _)
    have e2 := Crc.bt_bl s i hlt
    generalize (Crc.bl s)[i]'(by rw [Crc.bl_length]; exact hlt) = c at hc e2 ⊢
    have e3 : wrap64 (bt s (i : Int)) = ((c : Nat) : Int) := by rw [e2]; exact wrap_id (by omega) (by omega)
    have e4 : Go.bits .xor .i64 (x : Int) (c : Int) = ((x ^^^ c : Nat) : Int) := xor_nat (by omega) (by omega)
    have hx' : x ^^^ c < 2 ^ 32 := Nat.xor_lt_two_pow hx (by omega)
    refine Ev.step (f := fun k => (impl_shifted.f k ((x ^^^ c : Nat) : Int)).bind fun t => impl_sumOn.l0 k t s (s.size : Int) ((i + 1 : Nat) : Int)) (fun k => ?_) ?_
    · simp only [impl_sumOn.l0, e1, e3, e4]
      rw [if_pos (by omega), if_pos (by omega), if_pos (by omega)]
    · exact Ev.bind (f := fun k t => impl_sumOn.l0 k t s (s.size : Int) ((i + 1 : Nat) : Int)) (impl_shifted_ev _ hx') (ih _ _ (Crc.shN_lt 8 hx') (by omega))
theorem impl_sumOn_ev (x : Nat) (s : ByteArray) (hs : s.size ≤ 140737488351232) (hx : x < 2 ^ 32) : Ev (fun k => impl_sumOn.f k (x : Int) s) ((Crc.sumL x (Crc.bl s) : Nat) : Int) := by
  unfold impl_sumOn.f
  simp only [impl_turned_eq x hx, Option.bind_some]
  exact impl_sumOn_l0 s hs s.size _ 0 (Nat.xor_lt_two_pow hx (by decide)) (by omega)

/-- What SumOn answers. -/
def sumOnV (a : Int) (s : ByteArray) : Int × Bool := if isS a && decide (s.size ≤ 400) then (((Crc.sumL a.toNat (Crc.bl s) : Nat) : Int), true) else (0, false)

theorem impl_SumOn_ev (a : Int) (s : ByteArray) (hs : s.size ≤ 140737488351232) : Ev (fun k => impl_SumOn.f k a s) (sumOnV a s) := by
  unfold impl_SumOn.f sumOnV
  simp only [impl_isSum_eq, impl_isSummed_eq, Option.bind_some]
  cases ha : isS a
  · exact Ev.now _
  · obtain ⟨x, rfl, hx⟩ := isS_nat ha
    by_cases h : s.size ≤ 400
    · have h' : isL (s.size : Int) = true := by simp only [isL, decide_eq_true_eq]; omega
      simp only [if_true, h', h, decide_true, Bool.and_self]
      exact Ev.bind (f := fun _ t => some (t, true)) (impl_sumOn_ev x s hs hx) (Ev.now _)
    · have h' : isL (s.size : Int) = false := by simp only [isL, decide_eq_false_iff_not]; omega
      simp only [if_true, h', h, decide_false, Bool.and_false]
      exact Ev.now _

theorem impl_SumOf_ev (s : ByteArray) (hs : s.size ≤ 140737488351232) : Ev (fun k => impl_SumOf.f k s) (sumOnV 0 s) :=
  Ev.bind (f := fun _ (b : Int × Bool) => some (b.1, b.2)) (impl_SumOn_ev 0 s hs) (Ev.now _)

theorem rd_nat (l : List Int) (i : Nat) (h : i < l.length) : rd l (i : Int) = l[i] := by
  unfold rd
  simp [List.getD_eq_getElem?_getD, List.getElem?_eq_getElem h]
theorem wrap_succ (i : Nat) (h : i < 9223372036854775807) : wrap64 ((i : Int) + 1) = ((i + 1 : Nat) : Int) := by rw [wrap_id (by omega) (by omega)]; omega

/-- Is a number an element? -/
def isB (a : Int) : Bool := decide (0 ≤ a ∧ a ≤ 255)
theorem isB_nat {a : Int} (h : isB a = true) : ∃ n : Nat, a = (n : Int) ∧ n < 256 := by
  simp only [isB, decide_eq_true_eq] at h
  exact ⟨a.toNat, by omega, by omega⟩
theorem isB_cast {n : Nat} (h : n < 256) : isB (n : Int) = true := by simp only [isB, decide_eq_true_eq]; omega

theorem and_255 (x : Int) : 0 ≤ Go.bits .and .u64 x 255 ∧ Go.bits .and .u64 x 255 ≤ 255 := by
  have h : Go.bits .and .u64 x 255 = IntKind.u64.wrap ((BitVec.ofInt 64 x &&& BitVec.ofInt 64 255).toNat : Int) := rfl
  rw [h, BitVec.toNat_and]
  have h2 : (BitVec.ofInt 64 255).toNat = 255 := by decide
  rw [h2]
  have h3 : (BitVec.ofInt 64 x).toNat &&& 255 ≤ 255 := Nat.and_le_right
  rw [IntKind.wrap_u64]
  omega
theorem wrap_in {n : Int} (h0 : -1000000000000000 ≤ n) (h1 : n ≤ 1000000000000000) : wrap64 n = n := wrap_id (by omega) (by omega)
theorem tmod_in (x n : Int) (hx : 0 ≤ x) (hn : 0 < n) : 0 ≤ Int.tmod x n ∧ Int.tmod x n < n ∧ Int.tmod x n ≤ x := by
  obtain ⟨a, rfl⟩ := nat_of hx
  obtain ⟨b, rfl⟩ := nat_of (a := n) (by omega)
  have e : Int.tmod (a : Int) (b : Int) = ((a % b : Nat) : Int) := rfl
  rw [e]
  have := Nat.mod_lt a (show b > 0 by omega)
  have := Nat.mod_le a b
  omega
/-- The bytes that are drawn from. -/
def BY (s : List Int) : Prop := ∀ x ∈ s, 0 ≤ x ∧ x ≤ 255
theorem wf_BY {s : List Int} (h : ∀ x ∈ s, (Lit.int .u8 x).wf = true) : BY s := fun x hx => by
  have := h x hx
  simp only [Lit.wf, IntKind.min, IntKind.max, IntKind.signed, IntKind.bits, Bool.and_eq_true, decide_eq_true_eq] at this
  simp at this
  omega
theorem BY.rd {s : List Int} (h : BY s) (i : Int) : 0 ≤ rd s i ∧ rd s i ≤ 255 := by
  unfold Go.Proofs.YtekadhniinpdfaaW.PrintWords.rd
  rw [List.getD_eq_getElem?_getD]
  cases e : s[i.toNat]? with
  | none => exact ⟨Int.le_refl _, (by decide : (0 : Int) ≤ 255)⟩
  | some v => exact h v (List.mem_of_getElem? e)

theorem spec_l1Cur_next_ex {s : List Int} (hs : BY s) {a : Int} (d : Int) (ha : 0 ≤ a) (hb : a ≤ 1000000000000) : ∃ v a' d', spec_l1Cur_next.f s a d = some (v, a', d') ∧ 0 ≤ v ∧ v ≤ 255 ∧ 0 ≤ a' ∧ a' ≤ a + 1 := by
  have ew : wrap64 (a + 1) = a + 1 := wrap_in (by omega) (by omega)
  unfold spec_l1Cur_next.f
  rw [ew]
  have hr := hs.rd a
  by_cases h1 : a < (s.length : Int)
  · rw [if_pos h1, if_pos ha]
    by_cases h2 : a + 1 ≤ (s.length : Int)
    · rw [if_pos h2]
      exact ⟨_, _, _, rfl, by rw [wrap_in (by omega) (by omega)]; omega, by rw [wrap_in (by omega) (by omega)]; omega, by omega, by omega⟩
    · omega
  · rw [if_neg h1]
    by_cases h2 : a + 1 ≤ (s.length : Int)
    · omega
    · rw [if_neg h2]
      generalize IntKind.u64.wrap ((IntKind.u64.wrap ((IntKind.u64.wrap (d * 6364136223846793005)))) + 1442695040888963407) = z
      have hz := and_255 (z / 1099511627776)
      exact ⟨_, _, _, rfl, by rw [wrap_in (by omega) (by omega)]; omega, by rw [wrap_in (by omega) (by omega)]; omega, by omega, by omega⟩

theorem spec_l1Cur_pick_ex {s : List Int} (hs : BY s) {a : Int} (d : Int) (n : Int) (ha : 0 ≤ a) (hb : a ≤ 900000000000) : ∃ v a' d', spec_l1Cur_pick.f s a d n = some (v, a', d') ∧ 0 ≤ v ∧ (v < n ∨ v = 0) ∧ v ≤ 65535 ∧ 0 ≤ a' ∧ a' ≤ a + 2 := by
  unfold spec_l1Cur_pick.f
  by_cases h1 : n ≤ 1
  · rw [if_pos h1]; exact ⟨_, _, _, rfl, by omega, by omega, by omega, by omega, by omega⟩
  · rw [if_neg h1]
    obtain ⟨v, a1, d1, e1, h2, h3, h4, h5⟩ := spec_l1Cur_next_ex hs d ha (by omega)
    rw [e1, Option.bind_some]
    by_cases h6 : n > 200
    · obtain ⟨v2, a2, d2, e2, h7, h8, h9, h10⟩ := spec_l1Cur_next_ex hs d1 h4 (by omega)
      have ew : wrap64 (wrap64 (v * 256) + v2) = v * 256 + v2 := by rw [wrap_in (n := v * 256) (by omega) (by omega), wrap_in (by omega) (by omega)]
      have ht := tmod_in (v * 256 + v2) n (by omega) (by omega)
      simp only [if_pos h6, e2, Option.bind_some, ew, if_neg (show ¬ n = 0 by omega)]
      exact ⟨_, _, _, rfl, by omega, by omega, by omega, by omega, by omega⟩
    · have ht := tmod_in v n (by omega) (by omega)
      simp only [if_neg h6, if_neg (show ¬ n = 0 by omega)]
      exact ⟨_, _, _, rfl, by omega, by omega, by omega, by omega, by omega⟩

theorem rdOf_nat {α : Type} (d : α) (l : List α) (i : Nat) (h : i < l.length) : rdOf d l (i : Int) = l[i] := by
  unfold rdOf
  simp [List.getD_eq_getElem?_getD, List.getElem?_eq_getElem h]
theorem wrap_succ2 (i : Nat) (h : i < 9223372036854775807) : wrap64 ((i : Int) + 1) = ((i + 1 : Nat) : Int) := by rw [wrap_id (by omega) (by omega)]; omega

theorem spec_l1Cur_of_ex {s : List Int} (hs : BY s) {a : Int} (d : Int) (l : List ByteArray) (ha : 0 ≤ a) (hb : a ≤ 900000000000) (hl : 0 < l.length) : ∃ v a' d', spec_l1Cur_of.f s a d l = some (v, a', d') ∧ v ∈ l ∧ 0 ≤ a' ∧ a' ≤ a + 2 := by
  obtain ⟨v, a1, d1, e1, h2, h3, h4, h5, h6⟩ := spec_l1Cur_pick_ex hs d (l.length : Int) ha hb
  have hv : v < (l.length : Int) := by omega
  obtain ⟨i, rfl⟩ := nat_of h2
  have hi : i < l.length := by omega
  unfold spec_l1Cur_of.f
  rw [e1, Option.bind_some, if_pos h2, if_pos hv]
  exact ⟨_, _, _, rfl, by rw [rdOf_nat _ l i hi]; exact List.getElem_mem hi, h5, h6⟩

theorem spec_l1Cur_one_ex {s : List Int} (hs : BY s) {a : Int} (d : Int) (n : Int) (ha : 0 ≤ a) (hb : a ≤ 900000000000) : ∃ v a' d', spec_l1Cur_one.f s a d n = some (v, a', d') ∧ 0 ≤ a' ∧ a' ≤ a + 2 := by
  obtain ⟨v, a1, d1, e1, h2, h3, h4, h5, h6⟩ := spec_l1Cur_pick_ex hs d n ha hb
  unfold spec_l1Cur_one.f
  rw [e1, Option.bind_some]
  exact ⟨_, _, _, rfl, h5, h6⟩

theorem text5_sizes : ∀ x ∈ ([(⟨#[97]⟩ : ByteArray), (⟨#[98, 108, 111, 99, 107]⟩ : ByteArray), (⟨#[0, 0]⟩ : ByteArray), (⟨#[255]⟩ : ByteArray), (⟨#[115, 111, 109, 101, 32, 116, 101, 120, 116]⟩ : ByteArray), (⟨#[49, 50, 51, 52, 53, 54, 55, 56, 57]⟩ : ByteArray)] : List ByteArray), x.size ≤ 9 := by
  intro x hx
  simp only [List.mem_cons, List.not_mem_nil, or_false] at hx
  rcases hx with rfl | rfl | rfl | rfl | rfl | rfl <;> decide
theorem spec_l1Cur_text5_l0 {s : List Int} (hs : BY s) : ∀ (n : Nat) (t : ByteArray) (a d : Int), n ≤ 10 → t.size ≤ 9 * (10 - n) → 0 ≤ a → a ≤ 800000000000 - 2 * n → ∃ v a' d', Ev (fun k => spec_l1Cur_text5.l0 k t (n : Int) s a d) (v, a', d') ∧ v.size ≤ 90 ∧ 0 ≤ a' ∧ a' ≤ a + 2 * n := by
  intro n
  induction n with
  | zero =>
    intro t a d _ ht ha hb
    refine ⟨t, a, d, ?_, by omega, by omega, by omega⟩
    exact Ev.step (f := fun _ => some (t, a, d)) (fun k => by simp only [spec_l1Cur_text5.l0]; rw [if_neg (by omega)]) (Ev.now _)
  | succ n ih =>
    intro t a d hn ht ha hb
    obtain ⟨x, a1, d1, e1, h2, h3, h4⟩ := spec_l1Cur_of_ex hs d ([(⟨#[97]⟩ : ByteArray), (⟨#[98, 108, 111, 99, 107]⟩ : ByteArray), (⟨#[0, 0]⟩ : ByteArray), (⟨#[255]⟩ : ByteArray), (⟨#[115, 111, 109, 101, 32, 116, 101, 120, 116]⟩ : ByteArray), (⟨#[49, 50, 51, 52, 53, 54, 55, 56, 57]⟩ : ByteArray)] : List ByteArray) ha (by omega) (by decide)
    have hx := text5_sizes x h2
    obtain ⟨v, a2, d2, e2, h5, h6, h7⟩ := ih (t ++ x) a1 d1 (by omega) (by rw [ByteArray.size_append]; omega) h3 (by omega)
    refine ⟨v, a2, d2, ?_, h5, h6, by omega⟩
    refine Ev.step (f := fun k => spec_l1Cur_text5.l0 k (t ++ x) (n : Int) s a1 d1) (fun k => ?_) e2
    simp only [spec_l1Cur_text5.l0]
    have ew : wrap64 (((n + 1 : Nat) : Int) - 1) = (n : Int) := by rw [wrap_in (by omega) (by omega)]; omega
    rw [if_pos (by omega), e1, Option.bind_some]
    show (if t.size + x.size ≤ 9223372036854775807 then spec_l1Cur_text5.l0 k (t ++ x) (wrap64 (((n + 1 : Nat) : Int) - 1)) s a1 d1 else none) = _
    rw [if_pos (by omega), ew]
theorem strOfNums_len (xs : List Int) : (strOfNums xs).size = xs.length := by simp [strOfNums, ByteArray.size]
theorem spec_l1Cur_text5_ex {s : List Int} (hs : BY s) {a : Int} (d : Int) (ha : 0 ≤ a) (hb : a ≤ 700000000000) : ∃ v a' d', Ev (fun k => spec_l1Cur_text5.f k s a d) (v, a', d') ∧ v.size ≤ 1000 ∧ 0 ≤ a' ∧ a' ≤ a + 100 := by
  obtain ⟨v, a1, d1, e1, h1, h2⟩ := spec_l1Cur_one_ex hs d 20 ha (by omega)
  unfold spec_l1Cur_text5.f
  cases v
  · obtain ⟨v2, a2, d2, e2, h3, h4, h5, h6, h7⟩ := spec_l1Cur_pick_ex hs d1 6 h1 (by omega)
    obtain ⟨n, rfl⟩ := nat_of h3
    obtain ⟨x, a3, d3, e3, h8, h9, h10⟩ := spec_l1Cur_text5_l0 hs n ⟨#[]⟩ a2 d2 (by omega) (by simp [ByteArray.size]) h6 (by omega)
    refine ⟨x, a3, d3, ?_, by omega, h9, by omega⟩
    simp only [e1, e2, Option.bind_some, Bool.false_eq_true, if_false]
    exact e3
  · obtain ⟨v2, a2, d2, e2, h3, h4, h5, h6, h7⟩ := spec_l1Cur_pick_ex hs d1 3 h1 (by omega)
    have ew : wrap64 (399 + v2) = 399 + v2 := wrap_in (by omega) (by omega)
    have z1 : 0 ≤ 399 + v2 := by omega
    have z2 : (399 + v2).toNat ≤ 281474976710656 := by omega
    refine ⟨strOfNums (List.replicate (399 + v2).toNat 0), a2, d2, ?_, by rw [strOfNums_len, List.length_replicate]; omega, h6, by omega⟩
    simp only [e1, e2, Option.bind_some, if_true, ew, if_pos z1]
    exact ⟨0, fun k _ => if_pos z2⟩

theorem spec_DrawSumOf_ex {s : List Int} (hs : BY s) : ∃ v, Ev (fun k => spec_DrawSumOf.f k s) v ∧ v.size ≤ 1000 := by
  obtain ⟨v, a1, d1, e1, h1, h2⟩ := spec_l1Cur_text5_ex hs (a := 0) 0 (by omega) (by omega)
  exact ⟨v, Ev.bind e1 (Ev.now _), h1⟩

theorem spec_l1In_eq (a b c : Int) : spec_l1In.f a b c = some (decide (b ≤ a ∧ a ≤ c)) := by
  unfold spec_l1In.f
  by_cases h : a ≥ b
  · rw [if_pos h]; congr 1; simp [show b ≤ a from h]
  · rw [if_neg h]; congr 1; simp; omega

theorem spec_l5Sum_eq (a : Int) : spec_l5Sum.f a = some (isS a) := by
  unfold spec_l5Sum.f; rw [spec_l1In_eq]; rfl

theorem spec_l5Byte_l0 : ∀ (n x i : Nat), x < 2 ^ 32 → n + i = 8 → Ev (fun k => spec_l5Byte.l0 k (x : Int) (i : Int)) ((Crc.shN n x : Nat) : Int) := by
  intro n
  induction n with
  | zero =>
    intro x i _ hi
    obtain rfl : i = 8 := by omega
    exact Ev.step (f := fun _ => some ((x : Nat) : Int)) (fun k => by simp only [spec_l5Byte.l0]; rw [if_neg (by omega)]) (Ev.now _)
  | succ n ih =>
    intro x i hx hi
    have e1 : wrap64 ((i : Int) + 1) = ((i + 1 : Nat) : Int) := by rw [wrap_id (by omega) (by omega)]; omega
    have e2 : Go.bits .xor .i64 ((x / 2 : Nat) : Int) 2197175160 = (((x / 2) ^^^ 2197175160 : Nat) : Int) := xor_nat (a := x / 2) (b := 2197175160) (by omega) (by decide)
    have e4 := and_one (a := x) (by omega)
    refine Ev.step (f := fun k => spec_l5Byte.l0 k ((Crc.sh1 x : Nat) : Int) ((i + 1 : Nat) : Int)) (fun k => ?_) (ih _ _ (Crc.sh1_lt hx) (by omega))
    simp only [spec_l5Byte.l0, e1, half_nat, e2, e4, Crc.sh1]
    rw [if_pos (by omega)]
    by_cases h1 : x % 2 = 1
    · rw [if_pos (show ((x % 2 : Nat) : Int) = 1 by omega), if_pos h1]
    · rw [if_neg (show ¬ ((x % 2 : Nat) : Int) = 1 by omega), if_neg h1]
theorem spec_l5Byte_ev (x : Nat) (hx : x < 2 ^ 32) : Ev (fun k => spec_l5Byte.f k (x : Int)) ((Crc.shN 8 x : Nat) : Int) := spec_l5Byte_l0 8 x 0 hx rfl

theorem spec_l5On_l0 (s : ByteArray) (hs : s.size ≤ 140737488351232) : ∀ (d x i : Nat), x < 2 ^ 32 → i + d = s.size → Ev (fun k => spec_l5On.l0 k (x : Int) s (i : Int)) ((Crc.crcL ((Crc.bl s).drop i) x ^^^ Crc.ones : Nat) : Int) := by
  intro d
  induction d with
  | zero =>
    intro x i hx hi
    obtain rfl : i = s.size := by omega
    have e : Go.bits .xor .i64 (x : Int) 4294967295 = ((x ^^^ Crc.ones : Nat) : Int) := xor_nat (a := x) (b := 4294967295) (by omega) (by decide)
    rw [Crc.bl_end]
    exact Ev.step (f := fun _ => some ((x ^^^ Crc.ones : Nat) : Int)) (fun k => by simp only [spec_l5On.l0]; rw [if_neg (by omega), e]) (Ev.now _)
  | succ d ih =>
    intro x i hx hi
    have hlt : i < s.size := by omega
    have e1 : wrap64 ((i : Int) + 1) = ((i + 1 : Nat) : Int) := by rw [wrap_id (by omega) (by omega)]; omega
    rw [Crc.bl_drop s i hlt]
    have hc : (Crc.bl s)[i]'(by rw [Crc.bl_length]; exact hlt) < 256 := Crc.bl_lt s _ (List.getElem_mem _)
    have e2 := Crc.bt_bl s i hlt
    generalize (Crc.bl s)[i]'(by rw [Crc.bl_length]; exact hlt) = c at hc e2 ⊢
    have e3 : wrap64 (bt s (i : Int)) = ((c : Nat) : Int) := by rw [e2]; exact wrap_id (by omega) (by omega)
    have e4 : Go.bits .xor .i64 (x : Int) (c : Int) = ((x ^^^ c : Nat) : Int) := xor_nat (by omega) (by omega)
    have hx' : x ^^^ c < 2 ^ 32 := Nat.xor_lt_two_pow hx (by omega)
    refine Ev.step (f := fun k => (spec_l5Byte.f k ((x ^^^ c : Nat) : Int)).bind fun t => spec_l5On.l0 k t s ((i + 1 : Nat) : Int)) (fun k => ?_) ?_
    · simp only [spec_l5On.l0, e1, e3, e4]
      rw [if_pos (by omega), if_pos (by omega)]
    · exact Ev.bind (f := fun k t => spec_l5On.l0 k t s ((i + 1 : Nat) : Int)) (spec_l5Byte_ev _ hx') (ih _ _ (Crc.shN_lt 8 hx') (by omega))
theorem spec_l5On_ev (x : Nat) (s : ByteArray) (hs : s.size ≤ 140737488351232) (hx : x < 2 ^ 32) : Ev (fun k => spec_l5On.f k (x : Int) s) ((Crc.sumL x (Crc.bl s) : Nat) : Int) := by
  have e : Go.bits .xor .i64 (x : Int) 4294967295 = ((x ^^^ Crc.ones : Nat) : Int) := xor_nat (a := x) (b := 4294967295) (by omega) (by decide)
  unfold spec_l5On.f
  rw [e]
  exact spec_l5On_l0 s hs s.size _ 0 (Nat.xor_lt_two_pow hx (by decide)) (by omega)

theorem spec_SumOn_ev (a : Int) (s : ByteArray) (hs : s.size ≤ 140737488351232) : Ev (fun k => spec_SumOn.f k a s) (sumOnV a s) := by
  unfold spec_SumOn.f sumOnV
  simp only [spec_l5Sum_eq, Option.bind_some]
  cases ha : isS a
  · exact Ev.now _
  · obtain ⟨x, rfl, hx⟩ := isS_nat ha
    by_cases h : s.size ≤ 400
    · have h' : ¬ (s.size : Int) > 400 := by omega
      simp only [if_true, if_neg h', h, decide_true, Bool.and_self]
      exact Ev.bind (f := fun _ t => some (t, true)) (spec_l5On_ev x s hs hx) (Ev.now _)
    · have h' : (s.size : Int) > 400 := by omega
      simp only [if_true, if_pos h', h, decide_false, Bool.and_false]
      exact Ev.now _

theorem spec_SumOf_ev (s : ByteArray) (hs : s.size ≤ 140737488351232) : Ev (fun k => spec_SumOf.f k s) (sumOnV 0 s) :=
  Ev.bind (f := fun _ (b : Int × Bool) => some (b.1, b.2)) (spec_SumOn_ev 0 s hs) (Ev.now _)

theorem laws_numberOf_ex {s : List Int} (hs : BY s) (hl : s.length ≤ 1048576) : ∃ n : Nat, Ev (fun k => laws_numberOf.f k s) (n : Int) ∧ n < 1000003 := by
  have h : ∀ d i m : Nat, i + d = s.length → m < 1000003 → ∃ n : Nat, Ev (fun k => laws_numberOf.l0 k (m : Int) s (s.length : Int) (i : Int)) (n : Int) ∧ n < 1000003 := by
    intro d
    induction d with
    | zero =>
      intro i m hi hm
      exact ⟨m, Ev.step (f := fun _ => some (m : Int)) (fun k => by simp only [laws_numberOf.l0]; rw [if_neg (by omega)]) (Ev.now _), hm⟩
    | succ d ih =>
      intro i m hi hm
      have hr := hs.rd (i : Int)
      have e1 : wrap64 (wrap64 (31 * (m : Int)) + wrap64 (rd s (i : Int))) = 31 * (m : Int) + rd s (i : Int) := by
        rw [wrap_in (n := 31 * (m : Int)) (by omega) (by omega), wrap_in (n := rd s (i : Int)) (by omega) (by omega), wrap_in (by omega) (by omega)]
      have ht := tmod_in (31 * (m : Int) + rd s (i : Int)) 1000003 (by omega) (by omega)
      obtain ⟨q, hq⟩ := nat_of ht.1
      obtain ⟨n, h1, h2⟩ := ih (i + 1) q (by omega) (by omega)
      refine ⟨n, Ev.step (f := fun k => laws_numberOf.l0 k (q : Int) s (s.length : Int) ((i + 1 : Nat) : Int)) (fun k => ?_) h1, h2⟩
      have ew : wrap64 ((i : Int) + 1) = ((i + 1 : Nat) : Int) := by rw [wrap_in (by omega) (by omega)]; omega
      simp only [laws_numberOf.l0, e1, hq, ew]
      rw [if_pos (by omega), if_pos (by omega), if_pos (by omega)]
  exact h s.length 0 0 (by omega) (by omega)

/-- What JoinSums answers. -/
def joinV (a b n : Int) : Int × Bool := if isS a && isS b && isL n then (((Crc.shN (8 * n.toNat) a.toNat ^^^ b.toNat : Nat) : Int), true) else (0, false)

theorem impl_JoinSums_l0 (b m : Nat) (hb : b < 2 ^ 32) (hm : m ≤ 400) : ∀ (n i a : Nat), a < 2 ^ 32 → i + n = m → Ev (fun k => impl_JoinSums.l0 k (a : Int) (b : Int) (m : Int) (i : Int)) (((Crc.shN (8 * n) a ^^^ b : Nat) : Int), true) := by
  intro n
  induction n with
  | zero =>
    intro i a ha hi
    have e : Go.bits .xor .i64 (a : Int) (b : Int) = ((a ^^^ b : Nat) : Int) := xor_nat (by omega) (by omega)
    exact Ev.step (f := fun _ => some (((a ^^^ b : Nat) : Int), true)) (fun k => by simp only [impl_JoinSums.l0]; rw [if_neg (by omega), e]) (Ev.now _)
  | succ n ih =>
    intro i a ha hi
    have e1 : wrap64 ((i : Int) + 1) = ((i + 1 : Nat) : Int) := by rw [wrap_id (by omega) (by omega)]; omega
    have : 8 * (n + 1) = 8 + 8 * n := by omega
    rw [this, Crc.shN_add]
    refine Ev.step (f := fun k => (impl_shifted.f k (a : Int)).bind fun t => impl_JoinSums.l0 k t (b : Int) (m : Int) ((i + 1 : Nat) : Int)) (fun k => ?_) ?_
    · simp only [impl_JoinSums.l0, e1]
      rw [if_pos (by omega)]
    · exact Ev.bind (f := fun k t => impl_JoinSums.l0 k t (b : Int) (m : Int) ((i + 1 : Nat) : Int)) (impl_shifted_ev _ ha) (ih _ _ (Crc.shN_lt 8 ha) (by omega))
theorem impl_JoinSums_ev (a b n : Int) : Ev (fun k => impl_JoinSums.f k a b n) (joinV a b n) := by
  have no : Ev (fun k => impl_JoinSums.j0 k a b n true) (0, false) := Ev.step (f := fun _ => some (0, false)) (fun k => by simp only [impl_JoinSums.j0]; rfl) (Ev.now _)
  unfold impl_JoinSums.f joinV
  simp only [impl_isSum_eq, impl_isSummed_eq, Option.bind_some]
  cases ha : isS a
  · exact no
  · cases hb : isS b
    · exact no
    · cases hn : isL n
      · exact no
      · obtain ⟨x, rfl, hx⟩ := isS_nat ha
        obtain ⟨y, rfl, hy⟩ := isS_nat hb
        obtain ⟨m, rfl, hm⟩ := isL_nat hn
        exact Ev.step (f := fun k => impl_JoinSums.l0 k (x : Int) (y : Int) (m : Int) ((0 : Nat) : Int)) (fun k => by simp only [impl_JoinSums.j0]; rfl) (impl_JoinSums_l0 y m hy hm m 0 x hx (by omega))

theorem spec_l1Cur_among_ex {s : List Int} (hs : BY s) {a : Int} (d : Int) (l : List Int) (ha : 0 ≤ a) (hb : a ≤ 900000000000) (hl : 0 < l.length) : ∃ v a' d', spec_l1Cur_among.f s a d l = some (v, a', d') ∧ v ∈ l ∧ 0 ≤ a' ∧ a' ≤ a + 2 := by
  obtain ⟨v, a1, d1, e1, h2, h3, h4, h5, h6⟩ := spec_l1Cur_pick_ex hs d (l.length : Int) ha hb
  have hv : v < (l.length : Int) := by omega
  obtain ⟨i, rfl⟩ := nat_of h2
  have hi : i < l.length := by omega
  unfold spec_l1Cur_among.f
  rw [e1, Option.bind_some, if_pos h2, if_pos hv]
  exact ⟨_, _, _, rfl, by rw [rd_nat l i hi]; exact List.getElem_mem hi, h5, h6⟩

theorem spec_l1Cur_sum32_ex {s : List Int} (hs : BY s) {a : Int} (d : Int) (ha : 0 ≤ a) (hb : a ≤ 800000000000) : ∃ v a' d', spec_l1Cur_sum32.f s a d = some (v, a', d') ∧ 0 ≤ a' ∧ a' ≤ a + 100 := by
  obtain ⟨v, a1, d1, e1, h1, h2⟩ := spec_l1Cur_one_ex hs d 3 ha (by omega)
  unfold spec_l1Cur_sum32.f
  cases v
  · obtain ⟨v2, a2, d2, e2, h3, h4, h5, h6, h7⟩ := spec_l1Cur_pick_ex hs d1 256 h1 (by omega)
    obtain ⟨v3, a3, d3, e3, g3, g4, g5, g6, g7⟩ := spec_l1Cur_pick_ex hs d2 256 h6 (by omega)
    obtain ⟨v4, a4, d4, e4, k3, k4, k5, k6, k7⟩ := spec_l1Cur_pick_ex hs d3 256 g6 (by omega)
    obtain ⟨v5, a5, d5, e5, m3, m4, m5, m6, m7⟩ := spec_l1Cur_pick_ex hs d4 256 k6 (by omega)
    simp only [e1, e2, e3, e4, e5, Option.bind_some, Bool.false_eq_true, if_false]
    exact ⟨_, _, _, rfl, by omega, by omega⟩
  · obtain ⟨v2, a2, d2, e2, _, h6, h7⟩ := spec_l1Cur_among_ex hs d1 ([(-1), 0, 1, 4294967295, 4294967296] : List Int) h1 (by omega) (by decide)
    simp only [e1, e2, Option.bind_some, if_true]
    exact ⟨_, _, _, rfl, by omega, by omega⟩

theorem spec_DrawSumOn_ex {s : List Int} (hs : BY s) : ∃ n v, Ev (fun k => spec_DrawSumOn.f k s) (n, v) ∧ v.size ≤ 1000 := by
  obtain ⟨n, a1, d1, e1, h1, h2⟩ := spec_l1Cur_sum32_ex hs (a := 0) 0 (by omega) (by omega)
  obtain ⟨v, a2, d2, e2, h3, h4⟩ := spec_l1Cur_text5_ex hs d1 h1 (by omega)
  refine ⟨n, v, ?_, h3⟩
  unfold spec_DrawSumOn.f
  simp only [e1, Option.bind_some]
  exact Ev.bind e2 (Ev.now _)

theorem spec_DrawJoinSums_ex {s : List Int} (hs : BY s) : ∃ v, spec_DrawJoinSums.f s = some v := by
  obtain ⟨n, a1, d1, e1, h1, h2⟩ := spec_l1Cur_sum32_ex hs (a := 0) 0 (by omega) (by omega)
  obtain ⟨n2, a2, d2, e2, h3, h4⟩ := spec_l1Cur_sum32_ex hs d1 h1 (by omega)
  obtain ⟨n3, a3, d3, e3, _, h5, h6⟩ := spec_l1Cur_among_ex hs d2 ([(-1), 0, 1, 5, 400, 401] : List Int) h3 (by omega) (by decide)
  unfold spec_DrawJoinSums.f
  simp only [e1, e2, e3, Option.bind_some]
  exact ⟨_, rfl⟩

theorem spec_JoinSums_l0 (b : Nat) (hb : b < 2 ^ 32) : ∀ (n a : Nat), a < 2 ^ 32 → n ≤ 400 → Ev (fun k => spec_JoinSums.l0 k (a : Int) (b : Int) (n : Int)) (((Crc.shN (8 * n) a ^^^ b : Nat) : Int), true) := by
  intro n
  induction n with
  | zero =>
    intro a ha _
    have e : Go.bits .xor .i64 (a : Int) (b : Int) = ((a ^^^ b : Nat) : Int) := xor_nat (by omega) (by omega)
    exact Ev.step (f := fun _ => some (((a ^^^ b : Nat) : Int), true)) (fun k => by simp only [spec_JoinSums.l0]; rw [if_neg (by omega), e]) (Ev.now _)
  | succ n ih =>
    intro a ha hn
    have e1 : wrap64 (((n + 1 : Nat) : Int) - 1) = (n : Int) := by rw [wrap_id (by omega) (by omega)]; omega
    have : 8 * (n + 1) = 8 + 8 * n := by omega
    rw [this, Crc.shN_add]
    refine Ev.step (f := fun k => (spec_l5Byte.f k (a : Int)).bind fun t => spec_JoinSums.l0 k t (b : Int) (n : Int)) (fun k => ?_) ?_
    · simp only [spec_JoinSums.l0, e1]
      rw [if_pos (by omega)]
    · exact Ev.bind (f := fun k t => spec_JoinSums.l0 k t (b : Int) (n : Int)) (spec_l5Byte_ev _ ha) (ih _ (Crc.shN_lt 8 ha) (by omega))
theorem spec_JoinSums_ev (a b n : Int) : Ev (fun k => spec_JoinSums.f k a b n) (joinV a b n) := by
  have no : Ev (fun k => spec_JoinSums.j0 k a b n true) (0, false) := Ev.step (f := fun _ => some (0, false)) (fun k => by simp only [spec_JoinSums.j0]; rfl) (Ev.now _)
  unfold spec_JoinSums.f joinV
  simp only [spec_l5Sum_eq, spec_l1In_eq, Option.bind_some]
  cases ha : isS a
  · exact no
  · cases hb : isS b
    · exact no
    · show Ev (fun k => spec_JoinSums.j0 k a b n (!isL n)) _
      cases hn : isL n
      · exact no
      · obtain ⟨x, rfl, hx⟩ := isS_nat ha
        obtain ⟨y, rfl, hy⟩ := isS_nat hb
        obtain ⟨m, rfl, hm⟩ := isL_nat hn
        exact Ev.step (f := fun k => spec_JoinSums.l0 k (x : Int) (y : Int) (m : Int)) (fun k => by simp only [spec_JoinSums.j0]; rfl) (spec_JoinSums_l0 y hy m x hx hm)

theorem spec_DrawZeroSum_ex {s : List Int} (hs : BY s) : ∃ v, spec_DrawZeroSum.f s = some v := by
  obtain ⟨n3, a3, d3, e3, _, h5, h6⟩ := spec_l1Cur_among_ex hs (a := 0) 0 ([(-1), 0, 1, 9, 400, 401] : List Int) (by omega) (by omega) (by decide)
  unfold spec_DrawZeroSum.f
  simp only [e3, Option.bind_some]
  exact ⟨_, rfl⟩

/-- What ZeroSum answers. -/
def zerosV (a : Int) : Int × Bool := if isL a then (((Crc.sumL 0 (Crc.bl (strOfNums (List.replicate a.toNat 0))) : Nat) : Int), true) else (0, false)
theorem strOfNums_size (xs : List Int) : (strOfNums xs).size = xs.length := by simp [strOfNums, ByteArray.size]

theorem impl_ZeroSum_ev (a : Int) : Ev (fun k => impl_ZeroSum.f k a) (zerosV a) := by
  unfold impl_ZeroSum.f zerosV
  simp only [impl_isSummed_eq, Option.bind_some]
  cases ha : isL a
  · exact Ev.now _
  · obtain ⟨n, rfl, hn⟩ := isL_nat ha
    have z1 : (0 : Int) ≤ (n : Int) := by omega
    have z2 : (n : Int).toNat ≤ 281474976710656 := by omega
    simp only [if_true, if_pos z1, if_pos z2]
    exact Ev.bind (f := fun _ t => some (t, true)) (impl_sumOn_ev 0 _ (by rw [strOfNums_size]; simp; omega) (by decide)) (Ev.now _)

theorem spec_ZeroSum_ev (a : Int) : Ev (fun k => spec_ZeroSum.f k a) (zerosV a) := by
  unfold spec_ZeroSum.f zerosV
  simp only [spec_l1In_eq, Option.bind_some]
  show Ev (fun k => if isL a = true then _ else _) _
  cases ha : isL a
  · exact Ev.now _
  · obtain ⟨n, rfl, hn⟩ := isL_nat ha
    have z1 : (0 : Int) ≤ (n : Int) := by omega
    have z2 : (n : Int).toNat ≤ 281474976710656 := by omega
    simp only [if_true, if_pos z1, if_pos z2]
    exact Ev.bind (f := fun _ t => some (t, true)) (spec_l5On_ev 0 _ (by rw [strOfNums_size]; simp; omega) (by decide)) (Ev.now _)

theorem nat_nn (n : Nat) : ((n : Int) < 0) = False := by simp
theorem one_nat : (1 : Int) = ((1 : Nat) : Int) := rfl
theorem one_nn (n : Nat) : (((n : Nat) : Int) = ((n : Nat) : Int)) = True := by simp

theorem sh1_xor (a b : Nat) : Crc.sh1 (a ^^^ b) = Crc.sh1 a ^^^ Crc.sh1 b := Burst.sh_xor a b
theorem shN_xor : ∀ n a b, Crc.shN n (a ^^^ b) = Crc.shN n a ^^^ Crc.shN n b
  | 0, _, _ => rfl
  | n + 1, a, b => by
    show Crc.shN n (Crc.sh1 (a ^^^ b)) = Crc.shN n (Crc.sh1 a) ^^^ Crc.shN n (Crc.sh1 b)
    rw [sh1_xor, shN_xor n]
theorem crcL_xor : ∀ (l : List Nat) (x y : Nat), Crc.crcL l (x ^^^ y) = Crc.crcL l x ^^^ Crc.shN (8 * l.length) y
  | [], _, _ => rfl
  | c :: l, x, y => by
    have e : Crc.crcL (c :: l) (x ^^^ y) = Crc.crcL l (Crc.shN 8 ((x ^^^ y) ^^^ c)) := rfl
    have e2 : Crc.crcL (c :: l) x = Crc.crcL l (Crc.shN 8 (x ^^^ c)) := rfl
    have e3 : (x ^^^ y) ^^^ c = (x ^^^ c) ^^^ y := by rw [Nat.xor_assoc, Nat.xor_comm y, ← Nat.xor_assoc]
    rw [e, e2, e3, shN_xor, crcL_xor l, List.length_cons, show 8 * (l.length + 1) = 8 + 8 * l.length by omega, Crc.shN_add]
theorem sumL_on (l m : List Nat) : Crc.sumL (Crc.sumL 0 l) m = Crc.sumL 0 (l ++ m) := by
  unfold Crc.sumL
  rw [Crc.crcL_append, Nat.xor_assoc, Nat.xor_self, Nat.xor_zero]
theorem sumL_join (l m : List Nat) : Crc.shN (8 * m.length) (Crc.sumL 0 l) ^^^ Crc.sumL 0 m = Crc.sumL 0 (l ++ m) := by
  unfold Crc.sumL
  rw [Crc.crcL_append, Nat.zero_xor]
  have e : Crc.crcL l Crc.ones = Crc.ones ^^^ (Crc.crcL l Crc.ones ^^^ Crc.ones) := by rw [Nat.xor_comm (Crc.crcL l Crc.ones), ← Nat.xor_assoc, Nat.xor_self, Nat.zero_xor]
  conv => rhs; rw [e, crcL_xor m]
  rw [Nat.xor_comm (Crc.shN _ _), Nat.xor_assoc, Nat.xor_assoc]
  congr 1
  exact Nat.xor_comm _ _
theorem bl_extract (s : ByteArray) (i j : Nat) : Crc.bl (s.extract i j) = ((Crc.bl s).drop i).take (j - i) := by
  unfold Crc.bl
  rw [ByteArray.data_extract, Array.toList_extract, List.extract, List.map_take, List.map_drop]
theorem bl_cut (s : ByteArray) (k : Nat) (hk : k ≤ s.size) : Crc.bl (s.extract 0 k) ++ Crc.bl (s.extract k s.size) = Crc.bl s := by
  rw [bl_extract, bl_extract, List.drop_zero, Nat.sub_zero]
  have : ((Crc.bl s).drop k).take (s.size - k) = (Crc.bl s).drop k := List.take_of_length_le (by rw [List.length_drop, Crc.bl_length]; exact Nat.le_refl _)
  rw [this, List.take_append_drop]
theorem FnSums : laws_FnSums.Pure := by
  intro l0 l1 _ _ hw0 _ _ hw1
  by_cases hlen : wrap64 ((l0.length : Int) + (l1.length : Int)) > 1048576
  · exact ⟨0, by unfold laws_FnSums.f; rw [if_pos hlen]⟩
  have hll : l0.length ≤ 140737488351232 ∧ l1.length ≤ 140737488351232 := by constructor <;> omega
  have hl1 : l1.length ≤ 1048576 := by rw [wrap_in (by omega) (by omega)] at hlen; omega
  have b0 := wf_BY hw0
  have b1 := wf_BY hw1
  obtain ⟨s, E1, hs⟩ := spec_DrawSumOf_ex b0
  have E2 := impl_SumOf_ev s (by omega)
  have E3 := spec_SumOf_ev s (by omega)
  obtain ⟨t, E4, ht⟩ := laws_numberOf_ex b1 hl1
  obtain ⟨n, v, E5, hv⟩ := spec_DrawSumOn_ex b1
  have E6 := impl_SumOn_ev n v (by omega)
  have E7 := spec_SumOn_ev n v (by omega)
  obtain ⟨⟨p, q, r⟩, E8⟩ := spec_DrawJoinSums_ex b1
  have E9 := impl_JoinSums_ev p q r
  have E10 := spec_JoinSums_ev p q r
  obtain ⟨z, E11⟩ := spec_DrawZeroSum_ex b1
  have E12 := impl_ZeroSum_ev z
  have E13 := spec_ZeroSum_ev z
  have J1 : Ev (fun k => laws_FnSums.j1 k l1) true := by
    refine Ev.step (fun k => laws_FnSums.j1.eq_2 _ k) ?_
    simp only [E8, E11, Option.bind_some]
    refine Ev.bind E5 ?_
    refine Ev.bind E6 ?_
    refine Ev.bind E7 ?_
    refine Ev.bind E9 ?_
    refine Ev.bind E10 ?_
    refine Ev.bind E12 ?_
    refine Ev.bind E13 ?_
    simp only [beq_self_eq_true, if_true]
    exact Ev.now _
  refine Ev.rounds ?_
  unfold laws_FnSums.f
  simp only [if_neg hlen]
  refine Ev.bind E1 ?_
  refine Ev.bind E2 ?_
  refine Ev.bind E3 ?_
  simp only [bne_self_eq_false, Bool.false_eq_true, if_false]
  refine Ev.step (fun k => laws_FnSums.j0.eq_2 _ _ _ _ _ k) ?_
  simp only [Bool.false_eq_true, if_false]
  by_cases h4 : s.size ≤ 400
  · have e0 : ∀ s : ByteArray, s.size ≤ 400 → sumOnV 0 s = (((Crc.sumL 0 (Crc.bl s) : Nat) : Int), true) := fun s h => by
      unfold sumOnV
      rw [show isS 0 = true from rfl, decide_eq_true h]; rfl
    rw [e0 s h4]
    simp only [if_true]
    refine Ev.bind E4 ?_
    have ew : wrap64 ((s.size : Int) + 1) = ((s.size + 1 : Nat) : Int) := by rw [wrap_in (by omega) (by omega)]; omega
    have et : Int.tmod (t : Int) ((s.size + 1 : Nat) : Int) = ((t % (s.size + 1) : Nat) : Int) := rfl
    have hm := Nat.mod_lt t (show s.size + 1 > 0 by omega)
    generalize hk : t % (s.size + 1) = k at et hm
    have z1 : ¬ ((s.size + 1 : Nat) : Int) = 0 := by omega
    have z2 : (0 : Int) ≤ (k : Int) := by omega
    have z3 : (k : Int) ≤ (s.size : Int) := by omega
    have ew2 : wrap64 ((s.size : Int) - (k : Int)) = ((s.size - k : Nat) : Int) := by rw [wrap_in (by omega) (by omega)]; omega
    simp only [ew, et, if_neg z1, if_pos z2, if_pos z3, Int.toNat_natCast, ew2]
    have c1 : (s.extract 0 k).size = k := by simp only [ByteArray.size_extract]; omega
    have c2 : (s.extract k s.size).size = s.size - k := by simp only [ByteArray.size_extract]; omega
    have F1 := impl_SumOf_ev (s.extract 0 k) (by omega)
    have F2 := impl_SumOf_ev (s.extract k s.size) (by omega)
    rw [e0 _ (by omega)] at F1 F2
    refine Ev.bind F1 ?_
    refine Ev.bind F2 ?_
    have hb1 := Crc.sumL_lt (x := 0) (by decide) (Crc.bl_lt (s.extract 0 k))
    have hb2 := Crc.sumL_lt (x := 0) (by decide) (Crc.bl_lt (s.extract k s.size))
    have F3 := impl_JoinSums_ev ((Crc.sumL 0 (Crc.bl (s.extract 0 k)) : Nat) : Int) ((Crc.sumL 0 (Crc.bl (s.extract k s.size)) : Nat) : Int) ((s.size - k : Nat) : Int)
    have F4 := impl_SumOn_ev ((Crc.sumL 0 (Crc.bl (s.extract 0 k)) : Nat) : Int) (s.extract k s.size) (by omega)
    have i1 : ∀ n : Nat, n < 2 ^ 32 → isS (n : Int) = true := fun n h => by simp only [isS, decide_eq_true_eq]; omega
    have i2 : isL ((s.size - k : Nat) : Int) = true := by simp only [isL, decide_eq_true_eq]; omega
    have f3 : joinV ((Crc.sumL 0 (Crc.bl (s.extract 0 k)) : Nat) : Int) ((Crc.sumL 0 (Crc.bl (s.extract k s.size)) : Nat) : Int) ((s.size - k : Nat) : Int) = (((Crc.sumL 0 (Crc.bl s) : Nat) : Int), true) := by
      unfold joinV
      rw [i1 _ hb1, i1 _ hb2, i2, ← bl_cut s k (by omega), ← sumL_join, Crc.bl_length, c2]; rfl
    have f4 : sumOnV ((Crc.sumL 0 (Crc.bl (s.extract 0 k)) : Nat) : Int) (s.extract k s.size) = (((Crc.sumL 0 (Crc.bl s) : Nat) : Int), true) := by
      unfold sumOnV
      rw [i1 _ hb1, decide_eq_true (show (s.extract k s.size).size ≤ 400 by omega), ← bl_cut s k (by omega), ← sumL_on]; rfl
    rw [f3] at F3
    rw [f4] at F4
    refine Ev.bind F3 ?_
    refine Ev.bind F4 ?_
    simp only [if_true]
    exact J1
  · have e0 : sumOnV 0 s = (0, false) := by
      unfold sumOnV
      rw [decide_eq_false h4, Bool.and_false]; rfl
    rw [e0]
    simp only [Bool.false_eq_true, if_false]
    exact J1

end Go.Proofs.Ytekadhniinpdfaa.Pure
