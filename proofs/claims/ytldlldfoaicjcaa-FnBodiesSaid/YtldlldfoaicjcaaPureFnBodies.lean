/- Bodies come back from their frames, a frame at another's place is told as such, and pieces are put together as they were parted, for drawn ones. No conditions beyond the row's own. -/
import Derived.Test.YtldlldfoaicjcaaMFnBodiesx11
import Derived.Test.YtldlldfoaicjcaaMFnBodiesx0
import Derived.Test.YtldlldfoaicjcaaMFnBodiesx1
import Derived.Test.YtldlldfoaicjcaaMFnBodiesx2
import Derived.Test.YtldlldfoaicjcaaMFnBodiesx3
import Derived.Test.YtldlldfoaicjcaaMFnBodiesx4
import Derived.Test.YtldlldfoaicjcaaMFnBodiesx5
import Derived.Test.YtldlldfoaicjcaaMFnBodiesx6
import Derived.Test.YtldlldfoaicjcaaMFnBodiesx7
import Derived.Test.YtldlldfoaicjcaaMFnBodiesx8
import Derived.Test.YtldlldfoaicjcaaMFnBodiesx9
import Derived.Test.YtldlldfoaicjcaaMFnBodiesx10
import Derived.Test.YtldlldfoaicjcaaBit
import Derived.Test.YtldlldfoaicjcaaCrc
import Derived.Test.YtldlldfoaicjcaaBurst
set_option linter.unusedVariables false
set_option linter.unusedSimpArgs false
namespace Go.Proofs.Ytldlldfoaicjcaa.Pure
open Go.RowKit Go.Proofs.Ytldlldfoaicjcaa Go.Proofs.Ytldlldfoaicjcaa.MFnBodies Go.Proofs.YtldlldfoaicjcaaW.PrintWords Go.Proofs.YtldlldfoaicjcaaW.PrintLast Go.Proofs.Ytldlldfoaicjcaa.Bit

theorem impl_within_eq (a b c : Int) : impl_within.f a b c = some (decide (b ≤ a ∧ a ≤ c)) := by
  unfold impl_within.f
  by_cases h : a ≥ b
  · rw [if_pos h]; congr 1; simp [show b ≤ a from h]
  · rw [if_neg h]; congr 1; simp; omega

theorem rd_nat (l : List Int) (i : Nat) (h : i < l.length) : rd l (i : Int) = l[i] := by
  unfold rd
  simp [List.getD_eq_getElem?_getD, List.getElem?_eq_getElem h]
theorem wrap_succ (i : Nat) (h : i < 9223372036854775807) : wrap64 ((i : Int) + 1) = ((i + 1 : Nat) : Int) := by rw [wrap_id (by omega) (by omega)]; omega

/-- Is a number an element? -/
def isB (a : Int) : Bool := decide (0 ≤ a ∧ a ≤ 255)
theorem isB_nat {a : Int} (h : isB a = true) : ∃ n : Nat, a = (n : Int) ∧ n < 256 := by
  simp only [isB, decide_eq_true_eq] at h
  exact ⟨a.toNat, by omega, by omega⟩
theorem isB_cast {n : Nat} (h : n < 256) : isB (n : Int) = true := by simp only [isB, decide_eq_true_eq]; omega

theorem and_255 (x : Int) : 0 ≤ Go.bits .and .u64 x 255 ∧ Go.bits .and .u64 x 255 ≤ 255 := by
  have h : Go.bits .and .u64 x 255 = IntKind.u64.wrap ((BitVec.ofInt 64 x &&& BitVec.ofInt 64 255).toNat : Int) := rfl
  rw [h, BitVec.toNat_and]
  have h2 : (BitVec.ofInt 64 255).toNat = 255 := by decide
  rw [h2]
  have h3 : (BitVec.ofInt 64 x).toNat &&& 255 ≤ 255 := Nat.and_le_right
  rw [IntKind.wrap_u64]
  omega
theorem wrap_in {n : Int} (h0 : -1000000000000000 ≤ n) (h1 : n ≤ 1000000000000000) : wrap64 n = n := wrap_id (by omega) (by omega)
theorem tmod_in (x n : Int) (hx : 0 ≤ x) (hn : 0 < n) : 0 ≤ Int.tmod x n ∧ Int.tmod x n < n ∧ Int.tmod x n ≤ x := by
  obtain ⟨a, rfl⟩ := nat_of hx
  obtain ⟨b, rfl⟩ := nat_of (a := n) (by omega)
  have e : Int.tmod (a : Int) (b : Int) = ((a % b : Nat) : Int) := rfl
  rw [e]
  have := Nat.mod_lt a (show b > 0 by omega)
  have := Nat.mod_le a b
  omega
/-- The bytes that are drawn from. -/
def BY (s : List Int) : Prop := ∀ x ∈ s, 0 ≤ x ∧ x ≤ 255
theorem wf_BY {s : List Int} (h : ∀ x ∈ s, (Lit.int .u8 x).wf = true) : BY s := fun x hx => by
  have := h x hx
  simp only [Lit.wf, IntKind.min, IntKind.max, IntKind.signed, IntKind.bits, Bool.and_eq_true, decide_eq_true_eq] at this
  simp at this
  omega
theorem BY.rd {s : List Int} (h : BY s) (i : Int) : 0 ≤ rd s i ∧ rd s i ≤ 255 := by
  unfold Go.Proofs.YtldlldfoaicjcaaW.PrintWords.rd
  rw [List.getD_eq_getElem?_getD]
  cases e : s[i.toNat]? with
  | none => exact ⟨Int.le_refl _, (by decide : (0 : Int) ≤ 255)⟩
  | some v => exact h v (List.mem_of_getElem? e)

theorem spec_l1Cur_next_ex {s : List Int} (hs : BY s) {a : Int} (d : Int) (ha : 0 ≤ a) (hb : a ≤ 1000000000000) : ∃ v a' d', spec_l1Cur_next.f s a d = some (v, a', d') ∧ 0 ≤ v ∧ v ≤ 255 ∧ 0 ≤ a' ∧ a' ≤ a + 1 := by
  have ew : wrap64 (a + 1) = a + 1 := wrap_in (by omega) (by omega)
  unfold spec_l1Cur_next.f
  rw [ew]
  have hr := hs.rd a
  by_cases h1 : a < (s.length : Int)
  · rw [if_pos h1, if_pos ha]
    by_cases h2 : a + 1 ≤ (s.length : Int)
    · rw [if_pos h2]
      exact ⟨_, _, _, rfl, by rw [wrap_in (by omega) (by omega)]; omega, by rw [wrap_in (by omega) (by omega)]; omega, by omega, by omega⟩
    · omega
  · rw [if_neg h1]
    by_cases h2 : a + 1 ≤ (s.length : Int)
    · omega
    · rw [if_neg h2]
      generalize IntKind.u64.wrap ((IntKind.u64.wrap ((IntKind.u64.wrap (d * 6364136223846793005)))) + 1442695040888963407) = z
      have hz := and_255 (z / 1099511627776)
      exact ⟨_, _, _, rfl, by rw [wrap_in (by omega) (by omega)]; omega, by rw [wrap_in (by omega) (by omega)]; omega, by omega, by omega⟩

theorem spec_l1Cur_pick_ex {s : List Int} (hs : BY s) {a : Int} (d : Int) (n : Int) (ha : 0 ≤ a) (hb : a ≤ 900000000000) : ∃ v a' d', spec_l1Cur_pick.f s a d n = some (v, a', d') ∧ 0 ≤ v ∧ (v < n ∨ v = 0) ∧ v ≤ 65535 ∧ 0 ≤ a' ∧ a' ≤ a + 2 := by
  unfold spec_l1Cur_pick.f
  by_cases h1 : n ≤ 1
  · rw [if_pos h1]; exact ⟨_, _, _, rfl, by omega, by omega, by omega, by omega, by omega⟩
  · rw [if_neg h1]
    obtain ⟨v, a1, d1, e1, h2, h3, h4, h5⟩ := spec_l1Cur_next_ex hs d ha (by omega)
    rw [e1, Option.bind_some]
    by_cases h6 : n > 200
    · obtain ⟨v2, a2, d2, e2, h7, h8, h9, h10⟩ := spec_l1Cur_next_ex hs d1 h4 (by omega)
      have ew : wrap64 (wrap64 (v * 256) + v2) = v * 256 + v2 := by rw [wrap_in (n := v * 256) (by omega) (by omega), wrap_in (by omega) (by omega)]
      have ht := tmod_in (v * 256 + v2) n (by omega) (by omega)
      simp only [if_pos h6, e2, Option.bind_some, ew, if_neg (show ¬ n = 0 by omega)]
      exact ⟨_, _, _, rfl, by omega, by omega, by omega, by omega, by omega⟩
    · have ht := tmod_in v n (by omega) (by omega)
      simp only [if_neg h6, if_neg (show ¬ n = 0 by omega)]
      exact ⟨_, _, _, rfl, by omega, by omega, by omega, by omega, by omega⟩

theorem rdOf_nat {α : Type} (d : α) (l : List α) (i : Nat) (h : i < l.length) : rdOf d l (i : Int) = l[i] := by
  unfold rdOf
  simp [List.getD_eq_getElem?_getD, List.getElem?_eq_getElem h]
theorem wrap_succ2 (i : Nat) (h : i < 9223372036854775807) : wrap64 ((i : Int) + 1) = ((i + 1 : Nat) : Int) := by rw [wrap_id (by omega) (by omega)]; omega

theorem spec_l1Cur_of_ex {s : List Int} (hs : BY s) {a : Int} (d : Int) (l : List ByteArray) (ha : 0 ≤ a) (hb : a ≤ 900000000000) (hl : 0 < l.length) : ∃ v a' d', spec_l1Cur_of.f s a d l = some (v, a', d') ∧ v ∈ l ∧ 0 ≤ a' ∧ a' ≤ a + 2 := by
  obtain ⟨v, a1, d1, e1, h2, h3, h4, h5, h6⟩ := spec_l1Cur_pick_ex hs d (l.length : Int) ha hb
  have hv : v < (l.length : Int) := by omega
  obtain ⟨i, rfl⟩ := nat_of h2
  have hi : i < l.length := by omega
  unfold spec_l1Cur_of.f
  rw [e1, Option.bind_some, if_pos h2, if_pos hv]
  exact ⟨_, _, _, rfl, by rw [rdOf_nat _ l i hi]; exact List.getElem_mem hi, h5, h6⟩

theorem spec_l1Cur_among_ex {s : List Int} (hs : BY s) {a : Int} (d : Int) (l : List Int) (ha : 0 ≤ a) (hb : a ≤ 900000000000) (hl : 0 < l.length) : ∃ v a' d', spec_l1Cur_among.f s a d l = some (v, a', d') ∧ v ∈ l ∧ 0 ≤ a' ∧ a' ≤ a + 2 := by
  obtain ⟨v, a1, d1, e1, h2, h3, h4, h5, h6⟩ := spec_l1Cur_pick_ex hs d (l.length : Int) ha hb
  have hv : v < (l.length : Int) := by omega
  obtain ⟨i, rfl⟩ := nat_of h2
  have hi : i < l.length := by omega
  unfold spec_l1Cur_among.f
  rw [e1, Option.bind_some, if_pos h2, if_pos hv]
  exact ⟨_, _, _, rfl, by rw [rd_nat l i hi]; exact List.getElem_mem hi, h5, h6⟩

theorem spec_l1Cur_frame_ex {s : List Int} (hs : BY s) {a : Int} (d : Int) (ha : 0 ≤ a) (hb : a ≤ 800000000000) : ∃ x y z b a' d', spec_l1Cur_frame.f s a d = some (x, y, z, b, a', d') ∧ (-1 ≤ x ∧ x ≤ 70000 ∧ -1 ≤ y ∧ y ≤ 70000 ∧ 0 ≤ z ∧ z ≤ 70000 ∧ b.size ≤ 100) ∧ 0 ≤ a' ∧ a' ≤ a + 12 := by
  obtain ⟨v1, a1, d1, e1, h1, h2, h3, h4, h5⟩ := spec_l1Cur_pick_ex hs d 3 ha (by omega)
  obtain ⟨v2, a2, d2, e2, g1, g2, g3, g4, g5⟩ := spec_l1Cur_pick_ex hs d1 9 h4 (by omega)
  obtain ⟨v3, a3, d3, e3, i1, i2, i3, i4, i5⟩ := spec_l1Cur_pick_ex hs d2 5 g4 (by omega)
  obtain ⟨b4, a4, d4, e4, j1, j4, j5⟩ := spec_l1Cur_of_ex hs d3 ([(⟨#[]⟩ : ByteArray), (⟨#[97]⟩ : ByteArray), (⟨#[98, 111, 100, 121]⟩ : ByteArray), (⟨#[115, 105, 120, 116, 101, 101, 110, 32, 98, 121, 116, 101, 115, 32, 46, 46]⟩ : ByteArray), (⟨#[0, 0]⟩ : ByteArray)] : List ByteArray) i4 (by omega) (by decide)
  have hb4 : b4.size ≤ 100 := by
    simp only [List.mem_cons, List.not_mem_nil, or_false] at j1
    rcases j1 with rfl | rfl | rfl | rfl | rfl <;> decide
  obtain ⟨v5, a5, d5, e5, k1, k2, k3, k4, k5⟩ := spec_l1Cur_pick_ex hs d4 30 j4 (by omega)
  have ew : wrap64 (1 + v1) = 1 + v1 := wrap_in (by omega) (by omega)
  have x0 : (⟨#[115, 101, 118, 101, 110, 116, 101, 101, 110, 32, 98, 121, 116, 101, 115, 32, 46, 46]⟩ : ByteArray).size ≤ 100 := by decide
  unfold spec_l1Cur_frame.f
  simp only [e1, e2, e3, e4, e5, Option.bind_some, ew]
  by_cases q0 : v5 = 0
  · obtain ⟨x6, a6, d6, e6, l1, l4, l5⟩ := spec_l1Cur_among_ex hs d5 ([0, 255, 256] : List Int) k4 (by omega) (by decide)
    simp only [List.mem_cons, List.not_mem_nil, or_false] at l1
    simp only [if_pos q0, e6, Option.bind_some]
    exact ⟨_, _, _, _, _, _, rfl, ⟨by omega, by omega, by omega, by omega, by omega, by omega, hb4⟩, by omega, by omega⟩
  simp only [if_neg q0]
  by_cases q1 : v5 = 1
  · obtain ⟨x6, a6, d6, e6, l1, l4, l5⟩ := spec_l1Cur_among_ex hs d5 ([(-1), 60000, 60001] : List Int) k4 (by omega) (by decide)
    simp only [List.mem_cons, List.not_mem_nil, or_false] at l1
    simp only [if_pos q1, e6, Option.bind_some]
    exact ⟨_, _, _, _, _, _, rfl, ⟨by omega, by omega, by omega, by omega, by omega, by omega, hb4⟩, by omega, by omega⟩
  simp only [if_neg q1]
  by_cases q2 : v5 = 2
  · simp only [if_pos q2]
    exact ⟨_, _, _, _, _, _, rfl, ⟨by omega, by omega, by omega, by omega, by omega, by omega, x0⟩, by omega, by omega⟩
  simp only [if_neg q2]
  exact ⟨_, _, _, _, _, _, rfl, ⟨by omega, by omega, by omega, by omega, by omega, by omega, hb4⟩, by omega, by omega⟩

theorem spec_l1Cur_one_ex {s : List Int} (hs : BY s) {a : Int} (d : Int) (n : Int) (ha : 0 ≤ a) (hb : a ≤ 900000000000) : ∃ v a' d', spec_l1Cur_one.f s a d n = some (v, a', d') ∧ 0 ≤ a' ∧ a' ≤ a + 2 := by
  obtain ⟨v, a1, d1, e1, h2, h3, h4, h5, h6⟩ := spec_l1Cur_pick_ex hs d n ha hb
  unfold spec_l1Cur_one.f
  rw [e1, Option.bind_some]
  exact ⟨_, _, _, rfl, h5, h6⟩

/-- The pieces of a text: so many at the most. -/
def splitL : Nat → ByteArray → List ByteArray
  | 0, s => [s]
  | f + 1, s => if 16 < s.size then s.extract 0 16 :: splitL f (s.extract 16 s.size) else [s]
theorem splitL_length : ∀ f s, (splitL f s).length ≤ f + 1
  | 0, _ => by simp [splitL]
  | f + 1, s => by
    unfold splitL
    have := splitL_length f (s.extract 16 s.size)
    split <;> simp <;> omega
/-- What SplitBody answers. -/
def splitV (s : ByteArray) : List ByteArray × Bool := if 1 ≤ s.size ∧ s.size ≤ 160 then (splitL 10 s, true) else ([], false)
theorem splitV_length (s : ByteArray) : (splitV s).1.length ≤ 11 := by
  unfold splitV
  split
  · exact splitL_length 10 s
  · simp

/-- Is a number of 32 bits? -/
def isS (a : Int) : Bool := decide (0 ≤ a ∧ a ≤ 4294967295)
theorem isS_nat {a : Int} (h : isS a = true) : ∃ n : Nat, a = (n : Int) ∧ n < 2 ^ 32 := by
  simp only [isS, decide_eq_true_eq] at h
  exact ⟨a.toNat, by omega, by omega⟩
def isL (a : Int) : Bool := decide (0 ≤ a ∧ a ≤ 400)
theorem isL_nat {a : Int} (h : isL a = true) : ∃ n : Nat, a = (n : Int) ∧ n ≤ 400 := by
  simp only [isL, decide_eq_true_eq] at h
  exact ⟨a.toNat, by omega, by omega⟩

theorem son_append (xs ys : List Int) : strOfNums (xs ++ ys) = strOfNums xs ++ strOfNums ys := by
  apply ByteArray.ext
  rw [ByteArray.data_append]
  simp [strOfNums]
theorem son_bytesOf (s : ByteArray) : strOfNums (bytesOf s) = s := by
  apply ByteArray.ext
  apply Array.toList_inj.1
  show (List.map (fun n : Int => UInt8.ofNat n.toNat) (bytesOf s)) = s.data.toList
  unfold bytesOf
  rw [List.map_map]
  conv => rhs; rw [← List.map_id s.data.toList]
  refine List.map_congr_left fun b _ => ?_
  show UInt8.ofNat ((b.toNat : Int).toNat) = b
  rw [Int.toNat_natCast]
  exact UInt8.ofNat_toNat
theorem son_size (xs : List Int) : (strOfNums xs).size = xs.length := by simp [strOfNums, ByteArray.size]
/-- The first 24 bytes of a frame. -/
def hdL (k a e : Int) (b : ByteArray) : List Int := [k % 256, a / 256 % 256, a % 256, e / 256 % 256, e % 256, (b.size : Int) % 256] ++ bytesOf b ++ List.replicate (18 - b.size) 0
def lowL (n : Int) : List Int := [n % 256, n / 256 % 256, n / 65536 % 256, n / 16777216 % 256]
theorem lowL_length (n : Int) : (lowL n).length = 4 := rfl
theorem hdL_length (k a e : Int) (b : ByteArray) (h : b.size ≤ 16) : (hdL k a e b).length = 24 := by
  unfold hdL
  simp only [List.length_append, List.length_cons, List.length_nil, bytesOf_length, List.length_replicate]
  omega
/-- A frame's bytes. -/
def frB (k a e : Int) (b : ByteArray) : ByteArray := strOfNums (hdL k a e b ++ lowL ((Crc.sumL 0 (Crc.bl (strOfNums (hdL k a e b))) : Nat) : Int))
theorem frB_size (k a e : Int) (b : ByteArray) (h : b.size ≤ 16) : (frB k a e b).size = 28 := by
  unfold frB
  rw [son_size, List.length_append, hdL_length k a e b h]; rfl
/-- Is a frame good? -/
def goodF (k a e : Int) (b : ByteArray) : Bool := decide (1 ≤ k ∧ k ≤ 255) && (decide (0 ≤ a ∧ a ≤ 60000) && (decide (0 ≤ e ∧ e ≤ 60000) && decide (b.size ≤ 16)))
theorem goodF_bd {k a e : Int} {b : ByteArray} (h : goodF k a e b = true) : 1 ≤ k ∧ k ≤ 255 ∧ 0 ≤ a ∧ a ≤ 60000 ∧ 0 ≤ e ∧ e ≤ 60000 ∧ b.size ≤ 16 := by
  simp only [goodF, Bool.and_eq_true, decide_eq_true_eq] at h
  obtain ⟨⟨h1, h2⟩, ⟨h3, h4⟩, ⟨h5, h6⟩, h7⟩ := h
  exact ⟨h1, h2, h3, h4, h5, h6, h7⟩
theorem size_dec (b : ByteArray) : decide ((b.size : Int) ≤ 16) = decide (b.size ≤ 16) := decide_eq_decide.2 (by omega)

theorem body_l0 {s : List Int} (hs : BY s) : ∀ (n : Nat) (t : ByteArray) (a d : Int), t.size + 16 * n ≤ 200 → 0 ≤ a → a ≤ 700000000000 - 6 * n → ∃ v a' d', Ev (fun k => spec_l1Cur_body.l0 k t (n : Int) s a d) (v, a', d') ∧ v.size ≤ 200 ∧ 0 ≤ a' ∧ a' ≤ a + 6 * n + 6 := by
  intro n
  induction n with
  | zero =>
    intro t a d ht ha hb
    obtain ⟨b, a1, d1, e1, h1, h2⟩ := spec_l1Cur_one_ex hs d 20 ha (by omega)
    cases b with
    | true =>
      obtain ⟨v, a2, d2, e2, k0, k1, k2, k3, k4⟩ := spec_l1Cur_pick_ex hs d1 3 h1 (by omega)
      obtain ⟨i, rfl⟩ := nat_of k0
      have ew : wrap64 (159 + (i : Int)) = ((159 + i : Nat) : Int) := by rw [wrap_id (by omega) (by omega)]; omega
      refine ⟨strOfNums (List.replicate (159 + i) 0), a2, d2, Ev.step (f := fun _ => some (strOfNums (List.replicate (159 + i) 0), a2, d2)) (fun k => ?_) (Ev.now _), by rw [son_size, List.length_replicate]; omega, k3, by omega⟩
      rw [spec_l1Cur_body.l0.eq_2, if_neg (by omega), e1, Option.bind_some, if_pos rfl, e2, Option.bind_some, ew, if_pos (by omega), if_pos (by omega), Int.toNat_natCast]
    | false =>
      refine ⟨t, a1, d1, Ev.step (f := fun _ => some (t, a1, d1)) (fun k => ?_) (Ev.now _), by omega, h1, by omega⟩
      rw [spec_l1Cur_body.l0.eq_2, if_neg (by omega), e1, Option.bind_some, if_neg (show ¬ (false = true) by decide)]
  | succ n ih =>
    intro t a d ht ha hb
    obtain ⟨v, a1, d1, e1, hv, h1, h2⟩ := spec_l1Cur_of_ex hs d ([(⟨#[97]⟩ : ByteArray), (⟨#[116, 101, 110, 32, 98, 121, 116, 101, 115, 46]⟩ : ByteArray), (⟨#[115, 105, 120, 116, 101, 101, 110, 32, 98, 121, 116, 101, 115, 32, 46, 46]⟩ : ByteArray), (⟨#[]⟩ : ByteArray)] : List ByteArray) ha (by omega) (by decide)
    have hvs : v.size ≤ 16 := by
      simp only [List.mem_cons, List.not_mem_nil, or_false] at hv
      rcases hv with rfl | rfl | rfl | rfl <;> decide
    have ew : wrap64 (((n + 1 : Nat) : Int) - 1) = (n : Int) := by rw [wrap_id (by omega) (by omega)]; omega
    have hsz : (t ++ v).size = t.size + v.size := ByteArray.size_append
    obtain ⟨r, a2, d2, E, g1, g2, g3⟩ := ih (t ++ v) a1 d1 (by omega) h1 (by omega)
    refine ⟨r, a2, d2, Ev.step (fun k => ?_) E, g1, g2, by omega⟩
    rw [spec_l1Cur_body.l0.eq_2, if_pos (show ((n + 1 : Nat) : Int) > 0 by omega), e1, Option.bind_some, if_pos (show t.size + v.size ≤ 9223372036854775807 by omega), ew]
theorem spec_l1Cur_body_ex {s : List Int} (hs : BY s) {a : Int} (d : Int) (ha : 0 ≤ a) (hb : a ≤ 600000000000) : ∃ v a' d', Ev (fun k => spec_l1Cur_body.f k s a d) (v, a', d') ∧ v.size ≤ 200 ∧ 0 ≤ a' ∧ a' ≤ a + 60 := by
  obtain ⟨v, a1, d1, e1, h0, h1, h2, h3, h4⟩ := spec_l1Cur_pick_ex hs d 6 ha (by omega)
  obtain ⟨i, rfl⟩ := nat_of h0
  have ew : Aside0 (wrap64 (1 + (i : Int)) = ((i + 1 : Nat) : Int)) := Aside0.mk (by rw [wrap_id (by omega) (by omega)]; omega)
  obtain ⟨r, a2, d2, E, g1, g2, g3⟩ := body_l0 hs (i + 1) (⟨#[]⟩ : ByteArray) a1 d1 (by have : (⟨#[]⟩ : ByteArray).size = 0 := rfl; omega) h3 (by omega)
  unfold spec_l1Cur_body.f
  simp only [e1, Option.bind_some, ew.out]
  exact ⟨r, a2, d2, E, g1, g2, by omega⟩

theorem spec_DrawFrameAll_ex {s : List Int} (hs : BY s) : ∃ x y z v, Ev (fun k => spec_DrawFrameAll.f k s) (x, y, z, v) ∧ (-1 ≤ y ∧ y ≤ 70000) ∧ v.size ≤ 200 := by
  obtain ⟨x, y, z, b, a1, d1, e1, h1, h2, h3⟩ := spec_l1Cur_frame_ex hs (a := 0) 0 (by omega) (by omega)
  obtain ⟨v, a2, d2, E, g1, g2, g3⟩ := spec_l1Cur_body_ex hs d1 h2 (by omega)
  unfold spec_DrawFrameAll.f
  simp only [e1, Option.bind_some]
  exact ⟨x, y, z, v, Ev.bind (f := fun k b => some (x, y, z, b.1)) E (Ev.now _), ⟨h1.2.2.1, h1.2.2.2.1⟩, g1⟩

theorem impl_SplitBody_l0 : ∀ (f : Nat) (s : ByteArray) (acc : List ByteArray), s.size ≤ 16 * f → acc.length + f ≤ 100 → Ev (fun k => impl_SplitBody.l0 k s acc) (acc ++ splitL f s, true) := by
  intro f
  induction f with
  | zero =>
    intro s acc hs ha
    exact Ev.step (f := fun _ => some (acc ++ [s], true)) (fun k => by simp only [impl_SplitBody.l0]; rw [if_neg (by omega), if_pos (by omega)]) (Ev.now _)
  | succ f ih =>
    intro s acc hs ha
    unfold splitL
    by_cases h : 16 < s.size
    · rw [if_pos h]
      have := ih (s.extract 16 s.size) (acc ++ [s.extract 0 16]) (by simp only [ByteArray.size_extract]; omega) (by simp; omega)
      rw [List.append_assoc] at this
      refine Ev.step (f := fun k => impl_SplitBody.l0 k (s.extract 16 s.size) (acc ++ [s.extract 0 16])) (fun k => ?_) this
      simp only [impl_SplitBody.l0]
      rw [if_pos (by omega), if_pos (by omega), if_pos (by omega), if_pos (by omega)]
    · rw [if_neg h]
      exact Ev.step (f := fun _ => some (acc ++ [s], true)) (fun k => by simp only [impl_SplitBody.l0]; rw [if_neg (by omega), if_pos (by omega)]) (Ev.now _)
theorem impl_SplitBody_ev (s : ByteArray) : Ev (fun k => impl_SplitBody.f k s) (splitV s) := by
  unfold impl_SplitBody.f splitV
  simp only [impl_within_eq, Option.bind_some]
  by_cases h : 1 ≤ s.size ∧ s.size ≤ 160
  · have z : (1 : Int) ≤ (s.size : Int) ∧ (s.size : Int) ≤ 160 := by omega
    rw [if_pos h]
    simp only [decide_eq_true z, if_true]
    have := impl_SplitBody_l0 10 s [] (by omega) (by simp)
    simpa using this
  · have z : ¬ ((1 : Int) ≤ (s.size : Int) ∧ (s.size : Int) ≤ 160) := by omega
    rw [if_neg h]
    simp only [decide_eq_false z]
    exact Ev.now _

theorem impl_GoodFrame_eq (k a e : Int) (b : ByteArray) : impl_GoodFrame.f k a e b = some (goodF k a e b) := by
  unfold impl_GoodFrame.f goodF
  simp only [impl_within_eq, Option.bind_some, size_dec]
  cases decide (1 ≤ k ∧ k ≤ 255) <;> cases decide (0 ≤ a ∧ a ≤ 60000) <;> cases decide (0 ≤ e ∧ e ≤ 60000) <;> rfl

theorem impl_turned_eq (x : Nat) (hx : x < 2 ^ 32) : impl_turned.f (x : Int) = some ((x ^^^ Crc.ones : Nat) : Int) := by
  have e : Go.bits .xor .i64 (x : Int) 4294967295 = ((x ^^^ Crc.ones : Nat) : Int) := xor_nat (a := x) (b := 4294967295) (by omega) (by decide)
  unfold impl_turned.f
  rw [e]

theorem impl_shifted_l0 : ∀ (n x i : Nat), x < 2 ^ 32 → n + i = 8 → Ev (fun k => impl_shifted.l0 k (x : Int) (i : Int)) ((Crc.shN n x : Nat) : Int) := by
  intro n
  induction n with
  | zero =>
    intro x i _ hi
    obtain rfl : i = 8 := by omega
    exact Ev.step (f := fun _ => some ((x : Nat) : Int)) (fun k => by simp only [impl_shifted.l0]; rw [if_neg (by omega)]) (Ev.now _)
  | succ n ih =>
    intro x i hx hi
    have e1 : wrap64 ((i : Int) + 1) = ((i + 1 : Nat) : Int) := by rw [wrap_id (by omega) (by omega)]; omega
    have e2 : Go.bits .xor .i64 ((x / 2 : Nat) : Int) 2197175160 = (((x / 2) ^^^ 2197175160 : Nat) : Int) := xor_nat (a := x / 2) (b := 2197175160) (by omega) (by decide)
    have e4 := and_one (a := x) (by omega)
    refine Ev.step (f := fun k => impl_shifted.l0 k ((Crc.sh1 x : Nat) : Int) ((i + 1 : Nat) : Int)) (fun k => ?_) (ih _ _ (Crc.sh1_lt hx) (by omega))
    simp only [impl_shifted.l0, e1, half_nat, e2, e4, Crc.sh1]
    rw [if_pos (by omega)]
    by_cases h1 : x % 2 = 1
    · rw [if_pos (show ((x % 2 : Nat) : Int) = 1 by omega), if_pos h1]
    · rw [if_neg (show ¬ ((x % 2 : Nat) : Int) = 1 by omega), if_neg h1]
theorem impl_shifted_ev (x : Nat) (hx : x < 2 ^ 32) : Ev (fun k => impl_shifted.f k (x : Int)) ((Crc.shN 8 x : Nat) : Int) := impl_shifted_l0 8 x 0 hx rfl

theorem impl_sumOn_l0 (s : ByteArray) (hs : s.size ≤ 140737488351232) : ∀ (d x i : Nat), x < 2 ^ 32 → i + d = s.size → Ev (fun k => impl_sumOn.l0 k (x : Int) s (s.size : Int) (i : Int)) ((Crc.crcL ((Crc.bl s).drop i) x ^^^ Crc.ones : Nat) : Int) := by
  intro d
  induction d with
  | zero =>
    intro x i hx hi
    obtain rfl : i = s.size := by omega
    rw [Crc.bl_end]
    exact Ev.step (f := fun _ => some ((x ^^^ Crc.ones : Nat) : Int)) (fun k => by simp only [impl_sumOn.l0]; rw [if_neg (by omega), impl_turned_eq x hx]; rfl) (Ev.now _)
  | succ d ih =>
    intro x i hx hi
    have hlt : i < s.size := by omega
    have e1 : wrap64 ((i : Int) + 1) = ((i + 1 : Nat) : Int) := by rw [wrap_id (by omega) (by omega)]; omega
    rw [Crc.bl_drop s i hlt]
    have hc : (Crc.bl s)[i]'(by rw [Crc.bl_length]; exact hlt) < 256 := Crc.bl_lt s _ (List.getElem_mem _)
    have e2 := Crc.bt_bl s i hlt
    generalize (Crc.bl s)[i]'(by rw [Crc.bl_length]; exact hlt) = c at hc e2 ⊢
    have e3 : wrap64 (bt s (i : Int)) = ((c : Nat) : Int) := by rw [e2]; exact wrap_id (by omega) (by omega)
    have e4 : Go.bits .xor .i64 (x : Int) (c : Int) = ((x ^^^ c : Nat) : Int) := xor_nat (by omega) (by omega)
    have hx' : x ^^^ c < 2 ^ 32 := Nat.xor_lt_two_pow hx (by omega)
    refine Ev.step (f := fun k => (impl_shifted.f k ((x ^^^ c : Nat) : Int)).bind fun t => impl_sumOn.l0 k t s (s.size : Int) ((i + 1 : Nat) : Int)) (fun k => ?_) ?_
    · simp only [impl_sumOn.l0, e1, e3, e4]
      rw [if_pos (by omega), if_pos (by omega), if_pos (by omega)]
    · exact Ev.bind (f := fun k t => impl_sumOn.l0 k t s (s.size : Int) ((i + 1 : Nat) : Int)) (impl_shifted_ev _ hx') (ih _ _ (Crc.shN_lt 8 hx') (by omega))
theorem impl_sumOn_ev (x : Nat) (s : ByteArray) (hs : s.size ≤ 140737488351232) (hx : x < 2 ^ 32) : Ev (fun k => impl_sumOn.f k (x : Int) s) ((Crc.sumL x (Crc.bl s) : Nat) : Int) := by
  unfold impl_sumOn.f
  simp only [impl_turned_eq x hx, Option.bind_some]
  exact impl_sumOn_l0 s hs s.size _ 0 (Nat.xor_lt_two_pow hx (by decide)) (by omega)

theorem impl_frameBytes_ev (k a e : Int) (b : ByteArray) (hb : b.size ≤ 16) : Ev (fun r => impl_frameBytes.f r k a e b) (frB k a e b) := by
  have ew : wrap64 (18 - (b.size : Int)) = ((18 - b.size : Nat) : Int) := by rw [wrap_id (by omega) (by omega)]; omega
  have z1 : (0 : Int) ≤ ((18 - b.size : Nat) : Int) := by omega
  have hl := hdL_length k a e b hb
  refine Ev.congr (f := fun r => (impl_sumOn.f r 0 (strOfNums (hdL k a e b))).bind fun t => if (hdL k a e b).length + (lowL t).length < 140737488355328 then some (strOfNums (hdL k a e b ++ lowL t)) else none) (fun r => ?_) ?_
  · unfold impl_frameBytes.f
    rw [Option.bind_some, if_pos (by simp; omega), Option.bind_some, ew, if_pos z1, if_pos (by rw [List.length_append, bytesOf_length, Int.toNat_natCast]; simp; omega), Option.bind_some, Int.toNat_natCast]
    rfl
  · refine Ev.bind (impl_sumOn_ev 0 (strOfNums (hdL k a e b)) (by rw [son_size, hl]; omega) (by decide)) ?_
    exact Ev.congr (f := fun _ => some (frB k a e b)) (fun r => if_pos (by rw [hl, lowL_length]; omega)) (Ev.now _)

/-- The frames of pieces, from place a on; nothing if one is not good. -/
def framesL (k e : Int) : Int → List ByteArray → Option (List ByteArray)
  | _, [] => some []
  | a, b :: l => if goodF k a e b then (framesL k e (a + 1) l).map (frB k a e b :: ·) else none
def frameV (k a e : Int) (s : ByteArray) : List ByteArray × Bool := if (splitV s).2 then (match framesL k e a (splitV s).1 with | some l => (l, true) | none => ([], false)) else ([], false)
theorem framesL_length (k e : Int) : ∀ (l : List ByteArray) (a : Int) (m : List ByteArray), framesL k e a l = some m → m.length = l.length
  | [], _, m, h => by cases h; rfl
  | b :: l, a, m, h => by
    unfold framesL at h
    split at h
    · obtain ⟨n, hn, rfl⟩ := Option.map_eq_some_iff.1 h
      simp [framesL_length k e l (a + 1) n hn]
    · cases h
theorem frameV_length (k a e : Int) (s : ByteArray) : (frameV k a e s).1.length ≤ 11 := by
  unfold frameV
  have h := splitV_length s
  split
  · cases hm : framesL k e a (splitV s).1 with
    | none => simp
    | some m => rw [framesL_length k e _ _ _ hm]; exact h
  · simp
theorem goodF_wrap {k a e : Int} {b : ByteArray} {i : Nat} (ha : -9223372036854775808 ≤ a ∧ a ≤ 9223372036854775807) (hi : i ≤ 100) : goodF k (wrap64 (a + (i : Int))) e b = goodF k (a + (i : Int)) e b := by
  by_cases h : a + (i : Int) ≤ 9223372036854775807
  · rw [wrap_id (by omega) h]
  · have e1 : decide (0 ≤ wrap64 (a + (i : Int)) ∧ wrap64 (a + (i : Int)) ≤ 60000) = false := by
      rw [decide_eq_false_iff_not]; unfold wrap64; omega
    have e2 : decide (0 ≤ a + (i : Int) ∧ a + (i : Int) ≤ 60000) = false := by rw [decide_eq_false_iff_not]; omega
    unfold goodF
    rw [e1, e2]

theorem impl_FrameAll_l0 (k a e : Int) (ha : -9223372036854775808 ≤ a ∧ a ≤ 9223372036854775807) (l : List ByteArray) (hl : l.length ≤ 11) : ∀ (d i : Nat) (acc : List ByteArray), i + d = l.length → acc.length ≤ i →
    Ev (fun r => impl_FrameAll.l0 r k a e acc l (l.length : Int) (i : Int)) (match framesL k e (a + (i : Int)) (l.drop i) with | some m => (acc ++ m, true) | none => ([], false)) := by
  intro d
  induction d with
  | zero =>
    intro i acc hi _
    obtain rfl : i = l.length := by omega
    rw [List.drop_length]
    show Ev _ (acc ++ [], true)
    rw [List.append_nil]
    exact Ev.step (f := fun _ => some (acc, true)) (fun r => by simp only [impl_FrameAll.l0]; rw [if_neg (by omega)]) (Ev.now _)
  | succ d ih =>
    intro i acc hi hacc
    have hlt : i < l.length := by omega
    have z1 : (i : Int) < (l.length : Int) := by omega
    have z2 : (0 : Int) ≤ (i : Int) := by omega
    have ew : wrap64 ((i : Int) + 1) = ((i + 1 : Nat) : Int) := by rw [wrap_id (by omega) (by omega)]; omega
    rw [List.drop_eq_getElem_cons hlt]
    unfold framesL
    refine Ev.step (fun k => impl_FrameAll.l0.eq_2 _ _ _ _ _ _ _ k) ?_
    simp only [if_pos z1, if_pos z2, rdOf_nat _ l i hlt, ew, impl_GoodFrame_eq, Option.bind_some]
    rw [goodF_wrap ha (by omega)]
    cases hg : goodF k (a + (i : Int)) e l[i]
    · simp only [Bool.false_eq_true, if_false]
      exact Ev.now _
    · have hb := goodF_bd hg
      have ea : wrap64 (a + (i : Int)) = a + (i : Int) := wrap_id (by omega) (by omega)
      simp only [if_true, ea]
      refine Ev.bind (impl_frameBytes_ev k (a + (i : Int)) e l[i] hb.2.2.2.2.2.2) ?_
      refine Ev.congr (f := fun r => impl_FrameAll.l0 r k a e (acc ++ [frB k (a + (i : Int)) e l[i]]) l (l.length : Int) ((i + 1 : Nat) : Int)) (fun r => if_pos (by omega)) ?_
      have := ih (i + 1) (acc ++ [frB k (a + (i : Int)) e l[i]]) (by omega) (by simp; omega)
      rw [show a + ((i + 1 : Nat) : Int) = a + (i : Int) + 1 by omega] at this
      cases hf : framesL k e (a + (i : Int) + 1) (l.drop (i + 1)) with
      | none => rw [hf] at this; exact this
      | some m => rw [hf] at this; simpa using this
theorem impl_FrameAll_ev (k a e : Int) (ha : -9223372036854775808 ≤ a ∧ a ≤ 9223372036854775807) (s : ByteArray) : Ev (fun r => impl_FrameAll.f r k a e s) (frameV k a e s) := by
  unfold impl_FrameAll.f frameV
  refine Ev.bind (impl_SplitBody_ev s) ?_
  have hl := splitV_length s
  cases h : (splitV s).2
  · exact Ev.now _
  · simp only [if_true]
    have := impl_FrameAll_l0 k a e ha (splitV s).1 hl (splitV s).1.length 0 [] (by omega) (by simp)
    rw [List.drop_zero, show a + ((0 : Nat) : Int) = a by omega] at this
    exact this

theorem spec_l1In_eq (a b c : Int) : spec_l1In.f a b c = some (decide (b ≤ a ∧ a ≤ c)) := by
  unfold spec_l1In.f
  by_cases h : a ≥ b
  · rw [if_pos h]; congr 1; simp [show b ≤ a from h]
  · rw [if_neg h]; congr 1; simp; omega

theorem spec_SplitBody_l0 : ∀ (f : Nat) (s : ByteArray) (acc : List ByteArray), s.size ≤ 16 * f → acc.length + f ≤ 100 → Ev (fun k => spec_SplitBody.l0 k s acc) (acc ++ splitL f s, true) := by
  intro f
  induction f with
  | zero =>
    intro s acc hs ha
    exact Ev.step (f := fun _ => some (acc ++ [s], true)) (fun k => by simp only [spec_SplitBody.l0]; rw [if_neg (by omega), if_pos (by omega)]) (Ev.now _)
  | succ f ih =>
    intro s acc hs ha
    unfold splitL
    by_cases h : 16 < s.size
    · rw [if_pos h]
      have := ih (s.extract 16 s.size) (acc ++ [s.extract 0 16]) (by simp only [ByteArray.size_extract]; omega) (by simp; omega)
      rw [List.append_assoc] at this
      refine Ev.step (f := fun k => spec_SplitBody.l0 k (s.extract 16 s.size) (acc ++ [s.extract 0 16])) (fun k => ?_) this
      simp only [spec_SplitBody.l0]
      rw [if_pos (by omega), if_pos (by omega), if_pos (by omega), if_pos (by omega)]
    · rw [if_neg h]
      exact Ev.step (f := fun _ => some (acc ++ [s], true)) (fun k => by simp only [spec_SplitBody.l0]; rw [if_neg (by omega), if_pos (by omega)]) (Ev.now _)
theorem spec_SplitBody_ev (s : ByteArray) : Ev (fun k => spec_SplitBody.f k s) (splitV s) := by
  unfold spec_SplitBody.f splitV
  simp only [spec_l1In_eq, Option.bind_some]
  by_cases h : 1 ≤ s.size ∧ s.size ≤ 160
  · have z : (1 : Int) ≤ (s.size : Int) ∧ (s.size : Int) ≤ 160 := by omega
    rw [if_pos h]
    simp only [decide_eq_true z, if_true]
    have := spec_SplitBody_l0 10 s [] (by omega) (by simp)
    simpa using this
  · have z : ¬ ((1 : Int) ≤ (s.size : Int) ∧ (s.size : Int) ≤ 160) := by omega
    rw [if_neg h]
    simp only [decide_eq_false z]
    exact Ev.now _

theorem spec_GoodFrame_eq (k a e : Int) (b : ByteArray) : spec_GoodFrame.f k a e b = some (goodF k a e b) := by
  unfold spec_GoodFrame.f goodF
  simp only [spec_l1In_eq, Option.bind_some, size_dec]
  cases decide (1 ≤ k ∧ k ≤ 255) <;> cases decide (0 ≤ a ∧ a ≤ 60000) <;> cases decide (0 ≤ e ∧ e ≤ 60000) <;> rfl

theorem w_m1 : wrap64 (0 - 1) = -1 := wrap_id (by omega) (by omega)
theorem w_0 : wrap64 (1 - 1) = 0 := wrap_id (by omega) (by omega)
theorem w_1 : wrap64 (2 - 1) = 1 := wrap_id (by omega) (by omega)
theorem spec_l6Bytes_one (n : Int) : Ev (fun k => spec_l6Bytes.f k n 1) (strOfNums [n % 256]) := by
  refine Ev.congr (f := fun k => spec_l6Bytes.l0 k n [0] 0) (fun k => ?_) ?_
  · unfold spec_l6Bytes.f
    rw [if_pos (by omega), if_pos (by decide), w_0]; rfl
  refine Ev.step (f := fun k => spec_l6Bytes.l0 k (n / 256) [n % 256] (-1)) (fun k => ?_) ?_
  · rw [spec_l6Bytes.l0.eq_2, if_pos (by omega), if_pos (by omega), if_pos (by simp), w_m1]; rfl
  · exact Ev.step (f := fun _ => some (strOfNums [n % 256])) (fun k => by rw [spec_l6Bytes.l0.eq_2, if_neg (by omega)]) (Ev.now _)
theorem spec_l6Bytes_two (n : Int) : Ev (fun k => spec_l6Bytes.f k n 2) (strOfNums [n / 256 % 256, n % 256]) := by
  refine Ev.congr (f := fun k => spec_l6Bytes.l0 k n [0, 0] 1) (fun k => ?_) ?_
  · unfold spec_l6Bytes.f
    rw [if_pos (by omega), if_pos (by decide), w_1]; rfl
  refine Ev.step (f := fun k => spec_l6Bytes.l0 k (n / 256) [0, n % 256] 0) (fun k => ?_) ?_
  · rw [spec_l6Bytes.l0.eq_2, if_pos (by omega), if_pos (by omega), if_pos (by simp), w_0]; rfl
  refine Ev.step (f := fun k => spec_l6Bytes.l0 k (n / 256 / 256) [n / 256 % 256, n % 256] (-1)) (fun k => ?_) ?_
  · rw [spec_l6Bytes.l0.eq_2, if_pos (by omega), if_pos (by omega), if_pos (by simp), w_m1]; rfl
  · exact Ev.step (f := fun _ => some (strOfNums [n / 256 % 256, n % 256])) (fun k => by rw [spec_l6Bytes.l0.eq_2, if_neg (by omega)]) (Ev.now _)

theorem u8_i (i : Int) (h0 : 0 ≤ i) (h4 : i < 4) : IntKind.u64.wrap (wrap64 (8 * i)) = 8 * i := by
  rw [wrap_id (by omega) (by omega), IntKind.wrap_u64]; omega
theorem spec_l6Low_ev (n : Int) : Ev (fun k => spec_l6Low.f k n) (strOfNums (lowL n)) := by
  unfold spec_l6Low.f
  have st : ∀ (i : Int) (s : ByteArray) (d : Int), 0 ≤ i → i < 4 → s.size ≤ 100 → shr .i64 n (8 * i) = d →
      ∀ R, Ev (fun k => spec_l6Low.l0 k n (s ++ strOfNums [d % 256]) (i + 1)) R → Ev (fun k => spec_l6Low.l0 k n s i) R := by
    intro i s d h0 h4 hs hd R h
    have ew : wrap64 (i + 1) = i + 1 := wrap_id (by omega) (by omega)
    have hu : 0 ≤ 8 * i := by omega
    refine Ev.step (fun k => spec_l6Low.l0.eq_2 _ _ _ k) ?_
    simp only [u8_i i h0 h4, if_pos h4, if_pos hu, hd, ew]
    refine Ev.bind (spec_l6Bytes_one d) ?_
    exact Ev.congr (f := fun k => spec_l6Low.l0 k n (s ++ strOfNums [d % 256]) (i + 1)) (fun k => if_pos (by rw [son_size]; simp; omega)) h
  have q0 : (2 : Int) ^ min (8 * 0 : Int).toNat IntKind.i64.bits = 1 := by decide
  have q1 : (2 : Int) ^ min (8 * 1 : Int).toNat IntKind.i64.bits = 256 := by decide
  have q2 : (2 : Int) ^ min (8 * 2 : Int).toNat IntKind.i64.bits = 65536 := by decide
  have q3 : (2 : Int) ^ min (8 * 3 : Int).toNat IntKind.i64.bits = 16777216 := by decide
  have s1 : ∀ n : Int, (strOfNums [n]).size = 1 := fun n => son_size _
  have s0 : (⟨#[]⟩ : ByteArray).size = 0 := rfl
  refine st 0 ⟨#[]⟩ n (by decide) (by decide) (by decide) (by unfold shr; rw [q0]; omega) _ ?_
  refine st 1 _ (n / 256) (by decide) (by decide) (by rw [ByteArray.size_append, s1, s0]; decide) (by unfold shr; rw [q1]) _ ?_
  refine st 2 _ (n / 65536) (by decide) (by decide) (by rw [ByteArray.size_append, ByteArray.size_append, s1, s1, s0]; decide) (by unfold shr; rw [q2]) _ ?_
  refine st 3 _ (n / 16777216) (by decide) (by decide) (by rw [ByteArray.size_append, ByteArray.size_append, ByteArray.size_append, s1, s1, s1, s0]; decide) (by unfold shr; rw [q3]) _ ?_
  have e : ((((⟨#[]⟩ : ByteArray) ++ strOfNums [n % 256]) ++ strOfNums [n / 256 % 256]) ++ strOfNums [n / 65536 % 256]) ++ strOfNums [n / 16777216 % 256] = strOfNums (lowL n) := by
    rw [show (⟨#[]⟩ : ByteArray) = strOfNums [] from rfl, ← son_append, ← son_append, ← son_append, ← son_append]; rfl
  rw [e]
  exact Ev.step (f := fun _ => some (strOfNums (lowL n))) (fun k => by rw [spec_l6Low.l0.eq_2, if_neg (by omega)]) (Ev.now _)

theorem spec_l5Byte_l0 : ∀ (n x i : Nat), x < 2 ^ 32 → n + i = 8 → Ev (fun k => spec_l5Byte.l0 k (x : Int) (i : Int)) ((Crc.shN n x : Nat) : Int) := by
  intro n
  induction n with
  | zero =>
    intro x i _ hi
    obtain rfl : i = 8 := by omega
    exact Ev.step (f := fun _ => some ((x : Nat) : Int)) (fun k => by simp only [spec_l5Byte.l0]; rw [if_neg (by omega)]) (Ev.now _)
  | succ n ih =>
    intro x i hx hi
    have e1 : wrap64 ((i : Int) + 1) = ((i + 1 : Nat) : Int) := by rw [wrap_id (by omega) (by omega)]; omega
    have e2 : Go.bits .xor .i64 ((x / 2 : Nat) : Int) 2197175160 = (((x / 2) ^^^ 2197175160 : Nat) : Int) := xor_nat (a := x / 2) (b := 2197175160) (by omega) (by decide)
    have e4 := and_one (a := x) (by omega)
    refine Ev.step (f := fun k => spec_l5Byte.l0 k ((Crc.sh1 x : Nat) : Int) ((i + 1 : Nat) : Int)) (fun k => ?_) (ih _ _ (Crc.sh1_lt hx) (by omega))
    simp only [spec_l5Byte.l0, e1, half_nat, e2, e4, Crc.sh1]
    rw [if_pos (by omega)]
    by_cases h1 : x % 2 = 1
    · rw [if_pos (show ((x % 2 : Nat) : Int) = 1 by omega), if_pos h1]
    · rw [if_neg (show ¬ ((x % 2 : Nat) : Int) = 1 by omega), if_neg h1]
theorem spec_l5Byte_ev (x : Nat) (hx : x < 2 ^ 32) : Ev (fun k => spec_l5Byte.f k (x : Int)) ((Crc.shN 8 x : Nat) : Int) := spec_l5Byte_l0 8 x 0 hx rfl

theorem spec_l5On_l0 (s : ByteArray) (hs : s.size ≤ 140737488351232) : ∀ (d x i : Nat), x < 2 ^ 32 → i + d = s.size → Ev (fun k => spec_l5On.l0 k (x : Int) s (i : Int)) ((Crc.crcL ((Crc.bl s).drop i) x ^^^ Crc.ones : Nat) : Int) := by
  intro d
  induction d with
  | zero =>
    intro x i hx hi
    obtain rfl : i = s.size := by omega
    have e : Go.bits .xor .i64 (x : Int) 4294967295 = ((x ^^^ Crc.ones : Nat) : Int) := xor_nat (a := x) (b := 4294967295) (by omega) (by decide)
    rw [Crc.bl_end]
    exact Ev.step (f := fun _ => some ((x ^^^ Crc.ones : Nat) : Int)) (fun k => by simp only [spec_l5On.l0]; rw [if_neg (by omega), e]) (Ev.now _)
  | succ d ih =>
    intro x i hx hi
    have hlt : i < s.size := by omega
    have e1 : wrap64 ((i : Int) + 1) = ((i + 1 : Nat) : Int) := by rw [wrap_id (by omega) (by omega)]; omega
    rw [Crc.bl_drop s i hlt]
    have hc : (Crc.bl s)[i]'(by rw [Crc.bl_length]; exact hlt) < 256 := Crc.bl_lt s _ (List.getElem_mem _)
    have e2 := Crc.bt_bl s i hlt
    generalize (Crc.bl s)[i]'(by rw [Crc.bl_length]; exact hlt) = c at hc e2 ⊢
    have e3 : wrap64 (bt s (i : Int)) = ((c : Nat) : Int) := by rw [e2]; exact wrap_id (by omega) (by omega)
    have e4 : Go.bits .xor .i64 (x : Int) (c : Int) = ((x ^^^ c : Nat) : Int) := xor_nat (by omega) (by omega)
    have hx' : x ^^^ c < 2 ^ 32 := Nat.xor_lt_two_pow hx (by omega)
    refine Ev.step (f := fun k => (spec_l5Byte.f k ((x ^^^ c : Nat) : Int)).bind fun t => spec_l5On.l0 k t s ((i + 1 : Nat) : Int)) (fun k => ?_) ?_
    · simp only [spec_l5On.l0, e1, e3, e4]
      rw [if_pos (by omega), if_pos (by omega)]
    · exact Ev.bind (f := fun k t => spec_l5On.l0 k t s ((i + 1 : Nat) : Int)) (spec_l5Byte_ev _ hx') (ih _ _ (Crc.shN_lt 8 hx') (by omega))
theorem spec_l5On_ev (x : Nat) (s : ByteArray) (hs : s.size ≤ 140737488351232) (hx : x < 2 ^ 32) : Ev (fun k => spec_l5On.f k (x : Int) s) ((Crc.sumL x (Crc.bl s) : Nat) : Int) := by
  have e : Go.bits .xor .i64 (x : Int) 4294967295 = ((x ^^^ Crc.ones : Nat) : Int) := xor_nat (a := x) (b := 4294967295) (by omega) (by decide)
  unfold spec_l5On.f
  rw [e]
  exact spec_l5On_l0 s hs s.size _ 0 (Nat.xor_lt_two_pow hx (by decide)) (by omega)

theorem spec_l6Frame_ev (k a e : Int) (b : ByteArray) (hb : b.size ≤ 16) : Ev (fun r => spec_l6Frame.f r k a e b) (frB k a e b) := by
  have ew : wrap64 (wrap64 (16 - (b.size : Int)) + 2) = ((18 - b.size : Nat) : Int) := by rw [wrap_id (n := 16 - (b.size : Int)) (by omega) (by omega), wrap_id (by omega) (by omega)]; omega
  have z1 : (0 : Int) ≤ ((18 - b.size : Nat) : Int) := by omega
  have z2 : ((18 - b.size : Nat) : Int).toNat ≤ 281474976710656 := by rw [Int.toNat_natCast]; omega
  have one : ∀ n : Int, (strOfNums [n]).size = 1 := fun n => son_size _
  have two : ∀ m n : Int, (strOfNums [m, n]).size = 2 := fun m n => son_size _
  have zz : (strOfNums (List.replicate (18 - b.size) 0)).size = 18 - b.size := by rw [son_size, List.length_replicate]
  have eh : strOfNums [k % 256] ++ strOfNums [a / 256 % 256, a % 256] ++ strOfNums [e / 256 % 256, e % 256] ++ strOfNums [(b.size : Int) % 256] ++ b ++ strOfNums (List.replicate (18 - b.size) 0) = strOfNums (hdL k a e b) := by
    unfold hdL
    rw [son_append, son_append, son_bytesOf, ← son_append, ← son_append, ← son_append]; rfl
  unfold spec_l6Frame.f
  refine Ev.bind (spec_l6Bytes_one k) ?_
  refine Ev.bind (spec_l6Bytes_two a) ?_
  refine Ev.congr (f := fun r => (spec_l6Bytes.f r e 2).bind fun t3 => if (strOfNums [k % 256] ++ strOfNums [a / 256 % 256, a % 256]).size + t3.size ≤ 9223372036854775807 then ((spec_l6Bytes.f r (b.size : Int) 1).bind fun t4 => (if ((strOfNums [k % 256] ++ strOfNums [a / 256 % 256, a % 256]) ++ t3).size + t4.size ≤ 9223372036854775807 then (if (((strOfNums [k % 256] ++ strOfNums [a / 256 % 256, a % 256]) ++ t3) ++ t4).size + b.size ≤ 9223372036854775807 then (if 0 ≤ (wrap64 ((wrap64 (16 - (b.size : Int))) + 2)) then (if (wrap64 ((wrap64 (16 - (b.size : Int))) + 2) : Int).toNat ≤ 281474976710656 then ((some (List.replicate (wrap64 ((wrap64 (16 - (b.size : Int))) + 2) : Int).toNat 0 : List Int)).bind fun y => (if ((((strOfNums [k % 256] ++ strOfNums [a / 256 % 256, a % 256]) ++ t3) ++ t4) ++ b).size + (strOfNums y).size ≤ 9223372036854775807 then ((spec_l5On.f r 0 (((((strOfNums [k % 256] ++ strOfNums [a / 256 % 256, a % 256]) ++ t3) ++ t4) ++ b) ++ (strOfNums y))).bind fun u => ((spec_l6Low.f r u).bind fun v => (if (((((strOfNums [k % 256] ++ strOfNums [a / 256 % 256, a % 256]) ++ t3) ++ t4) ++ b) ++ (strOfNums y)).size + v.size ≤ 9223372036854775807 then (some ((((((strOfNums [k % 256] ++ strOfNums [a / 256 % 256, a % 256]) ++ t3) ++ t4) ++ b) ++ (strOfNums y)) ++ v)) else (none)))) else (none))) else (none)) else (none)) else (none)) else (none))) else none) (fun r => if_pos (by rw [one, two]; omega)) ?_
  refine Ev.bind (spec_l6Bytes_two e) ?_
  refine Ev.congr (f := fun r => (spec_l6Bytes.f r (b.size : Int) 1).bind fun t4 => (if ((strOfNums [k % 256] ++ strOfNums [a / 256 % 256, a % 256]) ++ strOfNums [e / 256 % 256, e % 256]).size + t4.size ≤ 9223372036854775807 then (if (((strOfNums [k % 256] ++ strOfNums [a / 256 % 256, a % 256]) ++ strOfNums [e / 256 % 256, e % 256]) ++ t4).size + b.size ≤ 9223372036854775807 then (if 0 ≤ (wrap64 ((wrap64 (16 - (b.size : Int))) + 2)) then (if (wrap64 ((wrap64 (16 - (b.size : Int))) + 2) : Int).toNat ≤ 281474976710656 then ((some (List.replicate (wrap64 ((wrap64 (16 - (b.size : Int))) + 2) : Int).toNat 0 : List Int)).bind fun y => (if ((((strOfNums [k % 256] ++ strOfNums [a / 256 % 256, a % 256]) ++ strOfNums [e / 256 % 256, e % 256]) ++ t4) ++ b).size + (strOfNums y).size ≤ 9223372036854775807 then ((spec_l5On.f r 0 (((((strOfNums [k % 256] ++ strOfNums [a / 256 % 256, a % 256]) ++ strOfNums [e / 256 % 256, e % 256]) ++ t4) ++ b) ++ (strOfNums y))).bind fun u => ((spec_l6Low.f r u).bind fun v => (if (((((strOfNums [k % 256] ++ strOfNums [a / 256 % 256, a % 256]) ++ strOfNums [e / 256 % 256, e % 256]) ++ t4) ++ b) ++ (strOfNums y)).size + v.size ≤ 9223372036854775807 then (some ((((((strOfNums [k % 256] ++ strOfNums [a / 256 % 256, a % 256]) ++ strOfNums [e / 256 % 256, e % 256]) ++ t4) ++ b) ++ (strOfNums y)) ++ v)) else (none)))) else (none))) else (none)) else (none)) else (none)) else (none))) (fun r => if_pos (by rw [ByteArray.size_append, one, two, two]; omega)) ?_
  refine Ev.bind (spec_l6Bytes_one (b.size : Int)) ?_
  rw [ew]
  refine Ev.congr (f := fun r => (spec_l5On.f r 0 (strOfNums (hdL k a e b))).bind fun u => ((spec_l6Low.f r u).bind fun v => (if (strOfNums (hdL k a e b)).size + v.size ≤ 9223372036854775807 then (some (strOfNums (hdL k a e b) ++ v)) else (none)))) (fun r => ?_) ?_
  · rw [if_pos (by simp only [ByteArray.size_append, one, two]; omega), if_pos (by simp only [ByteArray.size_append, one, two]; omega), if_pos z1, if_pos z2, Option.bind_some, Int.toNat_natCast, if_pos (by simp only [ByteArray.size_append, one, two, zz]; omega), eh]
  · refine Ev.bind (spec_l5On_ev 0 (strOfNums (hdL k a e b)) (by rw [son_size, hdL_length k a e b hb]; omega) (by decide)) ?_
    refine Ev.bind (spec_l6Low_ev _) ?_
    refine Ev.congr (f := fun _ => some (frB k a e b)) (fun r => ?_) (Ev.now _)
    rw [if_pos (by rw [son_size, son_size, hdL_length k a e b hb, lowL_length]; omega)]
    unfold frB
    rw [son_append]

theorem spec_FrameBytes_ev (k a e : Int) (b : ByteArray) : Ev (fun r => spec_FrameBytes.f r k a e b) (if goodF k a e b then (frB k a e b, true) else (⟨#[]⟩, false)) := by
  unfold spec_FrameBytes.f
  simp only [spec_GoodFrame_eq, Option.bind_some]
  cases h : goodF k a e b
  · exact Ev.now _
  · simp only [if_true]
    exact Ev.bind (spec_l6Frame_ev k a e b (goodF_bd h).2.2.2.2.2.2) (Ev.now _)

theorem spec_FrameAll_l0 (k a e : Int) (ha : -9223372036854775808 ≤ a ∧ a ≤ 9223372036854775807) (l : List ByteArray) (hl : l.length ≤ 11) : ∀ (d i : Nat) (acc : List ByteArray), i + d = l.length → acc.length ≤ i →
    Ev (fun r => spec_FrameAll.l0 r k a e acc l (l.length : Int) (i : Int)) (match framesL k e (a + (i : Int)) (l.drop i) with | some m => (acc ++ m, true) | none => ([], false)) := by
  intro d
  induction d with
  | zero =>
    intro i acc hi _
    obtain rfl : i = l.length := by omega
    rw [List.drop_length]
    show Ev _ (acc ++ [], true)
    rw [List.append_nil]
    exact Ev.step (f := fun _ => some (acc, true)) (fun r => by simp only [spec_FrameAll.l0]; rw [if_neg (by omega)]) (Ev.now _)
  | succ d ih =>
    intro i acc hi hacc
    have hlt : i < l.length := by omega
    have z1 : (i : Int) < (l.length : Int) := by omega
    have z2 : (0 : Int) ≤ (i : Int) := by omega
    have ew : wrap64 ((i : Int) + 1) = ((i + 1 : Nat) : Int) := by rw [wrap_id (by omega) (by omega)]; omega
    rw [List.drop_eq_getElem_cons hlt]
    unfold framesL
    refine Ev.step (fun k => spec_FrameAll.l0.eq_2 _ _ _ _ _ _ _ k) ?_
    simp only [if_pos z1, if_pos z2, rdOf_nat _ l i hlt, ew]
    refine Ev.bind (spec_FrameBytes_ev _ _ _ _) ?_
    rw [goodF_wrap ha (by omega)]
    cases hg : goodF k (a + (i : Int)) e l[i]
    · simp only [Bool.false_eq_true, if_false]
      exact Ev.now _
    · have hb := goodF_bd hg
      have ea : wrap64 (a + (i : Int)) = a + (i : Int) := wrap_id (by omega) (by omega)
      simp only [if_true, ea]
      refine Ev.congr (f := fun r => spec_FrameAll.l0 r k a e (acc ++ [frB k (a + (i : Int)) e l[i]]) l (l.length : Int) ((i + 1 : Nat) : Int)) (fun r => if_pos (by omega)) ?_
      have := ih (i + 1) (acc ++ [frB k (a + (i : Int)) e l[i]]) (by omega) (by simp; omega)
      rw [show a + ((i + 1 : Nat) : Int) = a + (i : Int) + 1 by omega] at this
      cases hf : framesL k e (a + (i : Int) + 1) (l.drop (i + 1)) with
      | none => rw [hf] at this; exact this
      | some m => rw [hf] at this; simpa using this
theorem spec_FrameAll_ev (k a e : Int) (ha : -9223372036854775808 ≤ a ∧ a ≤ 9223372036854775807) (s : ByteArray) : Ev (fun r => spec_FrameAll.f r k a e s) (frameV k a e s) := by
  unfold spec_FrameAll.f frameV
  refine Ev.bind (spec_SplitBody_ev s) ?_
  have hl := splitV_length s
  cases h : (splitV s).2
  · exact Ev.now _
  · simp only [if_true]
    have := spec_FrameAll_l0 k a e ha (splitV s).1 hl (splitV s).1.length 0 [] (by omega) (by simp)
    rw [List.drop_zero, show a + ((0 : Nat) : Int) = a by omega] at this
    exact this

theorem laws_sameTexts_same (l : List ByteArray) (hl : l.length ≤ 1000000) : Ev (fun k => laws_sameTexts.f k l l) true := by
  have h : ∀ d i : Nat, i + d = l.length → Ev (fun k => laws_sameTexts.l0 k l l (l.length : Int) (i : Int)) true := by
    intro d
    induction d with
    | zero =>
      intro i hi
      exact Ev.step (f := fun _ => some true) (fun k => by rw [laws_sameTexts.l0.eq_2, if_neg (by omega)]) (Ev.now _)
    | succ d ih =>
      intro i hi
      refine Ev.step (f := fun k => laws_sameTexts.l0 k l l (l.length : Int) ((i + 1 : Nat) : Int)) (fun k => ?_) (ih (i + 1) (by omega))
      rw [laws_sameTexts.l0.eq_2, if_pos (by omega), if_pos (by omega), if_pos (by omega), if_pos (by omega), if_pos rfl, wrap_succ2 i (by omega)]
  unfold laws_sameTexts.f
  simp only [if_pos]
  exact h l.length 0 (by omega)

/-- Texts put together, and which texts are a body's pieces. -/
def catB : List ByteArray → ByteArray
  | [] => ⟨#[]⟩
  | t :: l => t ++ catB l
def okJ : List ByteArray → Bool
  | [] => true
  | t :: l => decide (1 ≤ t.size ∧ t.size ≤ 16) && ((l.isEmpty || decide (t.size = 16)) && okJ l)
theorem catB_data : ∀ l : List ByteArray, (catB l).data.toList = (l.map (·.data.toList)).flatten
  | [] => rfl
  | t :: l => by
    show (t ++ catB l).data.toList = _
    rw [ByteArray.data_append, Array.toList_append, catB_data l]; rfl
theorem catB_size (t : ByteArray) (l : List ByteArray) : (catB (t :: l)).size = t.size + (catB l).size := ByteArray.size_append
theorem app_nil (t : ByteArray) : t ++ (⟨#[]⟩ : ByteArray) = t := by
  cases t
  apply ByteArray.ext
  rw [ByteArray.data_append]; simp
theorem nil_app (t : ByteArray) : (⟨#[]⟩ : ByteArray) ++ t = t := by
  cases t
  apply ByteArray.ext
  rw [ByteArray.data_append]; simp
theorem app_assoc (a b c : ByteArray) : a ++ b ++ c = a ++ (b ++ c) := by
  apply ByteArray.ext
  simp [ByteArray.data_append]
theorem ext_left (a b : ByteArray) (n : Nat) (h : a.size = n) : (a ++ b).extract 0 n = a := by
  subst h
  apply ByteArray.ext
  apply Array.toList_inj.1
  rw [ByteArray.data_extract, Array.toList_extract, ByteArray.data_append, Array.toList_append]
  have e : a.size = a.data.toList.length := by rw [Array.length_toList]; rfl
  rw [List.extract, List.drop_zero, Nat.sub_zero, e, List.take_left']; rfl
theorem ext_right (a b : ByteArray) (n m : Nat) (h : a.size = n) (hm : m = n + b.size) : (a ++ b).extract n m = b := by
  subst h hm
  apply ByteArray.ext
  apply Array.toList_inj.1
  rw [ByteArray.data_extract, Array.toList_extract, ByteArray.data_append, Array.toList_append]
  have e : a.size = a.data.toList.length := by rw [Array.length_toList]; rfl
  have e2 : b.size = b.data.toList.length := by rw [Array.length_toList]; rfl
  rw [List.extract, Nat.add_sub_cancel_left, e, List.drop_left', e2, List.take_length]; rfl
theorem okJ_size : ∀ {l : List ByteArray}, okJ l = true → l ≠ [] → 1 ≤ (catB l).size ∧ (catB l).size ≤ 16 * l.length
  | [], _, h => absurd rfl h
  | t :: l, h, _ => by
    simp only [okJ, Bool.and_eq_true, decide_eq_true_eq] at h
    rw [catB_size]
    by_cases hl : l = []
    · subst hl
      have : (catB []).size = 0 := rfl
      simp only [List.length_cons, List.length_nil]; omega
    · have := okJ_size h.2.2 hl
      simp only [List.length_cons]; omega
theorem split_cat : ∀ (l : List ByteArray) (f : Nat), okJ l = true → l ≠ [] → l.length ≤ f + 1 → splitL f (catB l) = l
  | [], _, _, h, _ => absurd rfl h
  | [t], f, h, _, _ => by
    simp only [okJ, Bool.and_eq_true, decide_eq_true_eq] at h
    have e : catB [t] = t := app_nil t
    rw [e]
    cases f with
    | zero => rfl
    | succ f => unfold splitL; rw [if_neg (by omega)]
  | t :: u :: r, f, h, _, hf => by
    simp only [okJ, Bool.and_eq_true, decide_eq_true_eq, List.isEmpty_cons, Bool.false_or] at h
    cases f with
    | zero => simp at hf
    | succ f =>
      have hk : okJ (u :: r) = true := by simp only [okJ, Bool.and_eq_true, decide_eq_true_eq]; exact h.2.2
      have hs := okJ_size hk (by simp)
      have ih := split_cat (u :: r) f hk (by simp) (by simpa using hf)
      show splitL (f + 1) (t ++ catB (u :: r)) = _
      unfold splitL
      have e0 : (t ++ catB (u :: r)).size = 16 + (catB (u :: r)).size := by rw [ByteArray.size_append]; omega
      rw [if_pos (by omega), e0, ext_left _ _ 16 h.2.1, ext_right _ _ 16 _ h.2.1 rfl, ih]
theorem splitL_ne : ∀ (f : Nat) (s : ByteArray), (splitL f s).isEmpty = false
  | 0, _ => rfl
  | f + 1, s => by unfold splitL; split <;> rfl
theorem ok_split : ∀ (f : Nat) (s : ByteArray), 1 ≤ s.size → s.size ≤ 16 * (f + 1) → okJ (splitL f s) = true
  | 0, s, h1, h2 => by
    simp only [splitL, okJ, List.isEmpty_nil, Bool.true_or, Bool.and_true, decide_eq_true_eq]; omega
  | f + 1, s, h1, h2 => by
    unfold splitL
    split
    · have := ok_split f (s.extract 16 s.size) (by simp only [ByteArray.size_extract]; omega) (by simp only [ByteArray.size_extract]; omega)
      simp only [okJ, this, splitL_ne, Bool.false_or, Bool.and_true, Bool.and_eq_true, decide_eq_true_eq, ByteArray.size_extract]; omega
    · simp only [okJ, List.isEmpty_nil, Bool.true_or, Bool.and_true, decide_eq_true_eq]; omega
/-- What JoinBody answers. -/
def joinV (l : List ByteArray) : ByteArray × Bool := if 1 ≤ l.length ∧ l.length ≤ 10 then (if okJ l then (catB l, true) else (⟨#[]⟩, false)) else (⟨#[]⟩, false)
theorem toList_nil (t : ByteArray) : t.toList = ([] : List UInt8) ↔ t.size = 0 := by
  rw [Go.ByteArray.toList_eq]
  cases t with
  | mk a => simp [ByteArray.size]

theorem strings_Join_cat (l : List ByteArray) (h1 : l.length ≤ 1048576) (h2 : (catB l).size ≤ 1048576) : strings_Join.f l (⟨#[]⟩ : ByteArray) = some (catB l) := by
  have e : strings_Join.joined l (⟨#[]⟩ : ByteArray) = (catB l).data.toList := by
    unfold strings_Join.joined
    rw [catB_data]
    show ([] : List UInt8).intercalate (l.map (·.data.toList)) = _
    generalize l.map (·.data.toList) = m
    cases m with
    | nil => rfl
    | cons x r =>
      have := Lib.join_cons x r []
      unfold Lib.join at this
      rw [this]
      unfold Lib.joinTail
      simp
  unfold strings_Join.f
  rw [e]
  have hl : (catB l).data.toList.length = (catB l).size := by rw [Array.length_toList]; rfl
  rw [if_pos ⟨by omega, by omega⟩]

theorem bytes_ext {a b : ByteArray} (h : a.toList = b.toList) : a = b := by
  rw [Go.ByteArray.toList_eq, Go.ByteArray.toList_eq] at h
  cases a; cases b
  simp only [ByteArray.mk.injEq]
  exact Array.toList_inj.1 h

theorem slices_Equal_string_string_l0 (l m : List ByteArray) (hlm : l.length = m.length) (hl : l.length ≤ 140737488351232) : ∀ d i : Nat, i + d = l.length → Ev (fun k => slices_Equal_string_string.l0 k l m (l.length : Int) (i : Int)) (decide (l.drop i = m.drop i)) := by
  intro d
  induction d with
  | zero =>
    intro i hi
    obtain rfl : i = l.length := by omega
    have e : decide (l.drop l.length = m.drop l.length) = true := by
      have e2 : m.drop l.length = [] := by rw [hlm, List.drop_length]
      rw [e2, List.drop_length]; rfl
    rw [e]
    exact Ev.step (f := fun _ => some true) (fun k => by simp only [slices_Equal_string_string.l0]; rw [if_neg (by omega)]) (Ev.now _)
  | succ d ih =>
    intro i hi
    have hlt : i < l.length := by omega
    have hlt2 : i < m.length := by omega
    rw [List.drop_eq_getElem_cons hlt, List.drop_eq_getElem_cons hlt2]
    by_cases e : l[i] = m[i]
    · have : decide (l[i] :: l.drop (i + 1) = m[i] :: m.drop (i + 1)) = decide (l.drop (i + 1) = m.drop (i + 1)) := by simp only [List.cons.injEq, e, true_and]
      rw [this]
      refine Ev.step (f := fun k => slices_Equal_string_string.l0 k l m (l.length : Int) ((i + 1 : Nat) : Int)) (fun k => ?_) (ih (i + 1) (by omega))
      simp only [slices_Equal_string_string.l0, rdOf_nat _ l i hlt, rdOf_nat _ m i hlt2, wrap_succ2 i (by omega)]
      rw [if_pos (by omega), if_pos (by omega), if_pos (by omega), if_pos (by omega), if_pos (by rw [e])]
    · have : decide (l[i] :: l.drop (i + 1) = m[i] :: m.drop (i + 1)) = false := by simp only [List.cons.injEq, e, false_and, decide_false]
      rw [this]
      refine Ev.step (f := fun k => some false) (fun k => ?_) (Ev.now _)
      simp only [slices_Equal_string_string.l0, rdOf_nat _ l i hlt, rdOf_nat _ m i hlt2, wrap_succ2 i (by omega)]
      rw [if_pos (by omega), if_pos (by omega), if_pos (by omega), if_pos (by omega), if_neg (fun h => e (bytes_ext h))]
theorem slices_Equal_string_string_ev (l m : List ByteArray) (hl : l.length ≤ 140737488351232) : Ev (fun k => slices_Equal_string_string.f k l m) (decide (l = m)) := by
  unfold slices_Equal_string_string.f
  by_cases h : l.length = m.length
  · simp only [if_pos (show (l.length : Int) = (m.length : Int) by omega)]
    exact slices_Equal_string_string_l0 l m h hl l.length 0 (by omega)
  · simp only [if_neg (show ¬ (l.length : Int) = (m.length : Int) by omega)]
    have : decide (l = m) = false := by simp only [decide_eq_false_iff_not]; rintro rfl; exact h rfl
    rw [this]
    exact Ev.now _

theorem impl_JoinBody_ev (l : List ByteArray) (h2 : (catB l).size ≤ 1048576) : Ev (fun k => impl_JoinBody.f k l) (joinV l) := by
  unfold impl_JoinBody.f joinV
  simp only [impl_within_eq, Option.bind_some]
  by_cases h : 1 ≤ l.length ∧ l.length ≤ 10
  rotate_left
  · have z : ¬ ((1 : Int) ≤ (l.length : Int) ∧ (l.length : Int) ≤ 10) := by omega
    rw [if_neg h]
    simp only [decide_eq_false z]
    exact Ev.now _
  have z : (1 : Int) ≤ (l.length : Int) ∧ (l.length : Int) ≤ 10 := by omega
  have hne : l ≠ [] := fun e => by rw [e] at h; simp at h
  rw [if_pos h]
  simp only [decide_eq_true z, if_true, strings_Join_cat l (by omega) h2, Option.bind_some]
  refine Ev.bind (f := fun k bt => if bt.2 = true then ((slices_Equal_string_string.f k bt.1 l).bind fun t => if t = true then some (catB l, true) else some ((⟨#[]⟩ : ByteArray), false)) else some ((⟨#[]⟩ : ByteArray), false)) (impl_SplitBody_ev (catB l)) ?_
  unfold splitV
  cases hk : okJ l with
  | true =>
    have hs := okJ_size hk hne
    rw [if_pos (show 1 ≤ (catB l).size ∧ (catB l).size ≤ 160 by omega), split_cat l 10 hk hne (by omega)]
    have E := slices_Equal_string_string_ev l l (by omega)
    rw [decide_eq_true rfl] at E
    simp only [if_true]
    exact Ev.bind (f := fun _ t => if t = true then some (catB l, true) else some ((⟨#[]⟩ : ByteArray), false)) E (Ev.now _)
  | false =>
    by_cases hs : 1 ≤ (catB l).size ∧ (catB l).size ≤ 160
    · rw [if_pos hs]
      have hp := ok_split 10 (catB l) hs.1 (by omega)
      have hpl := splitL_length 10 (catB l)
      have E := slices_Equal_string_string_ev (splitL 10 (catB l)) l (by omega)
      rw [decide_eq_false (fun e => by rw [e, hk] at hp; cases hp)] at E
      simp only [if_true]
      exact Ev.bind (f := fun _ t => if t = true then some (catB l, true) else some ((⟨#[]⟩ : ByteArray), false)) E (Ev.now _)
    · rw [if_neg hs]
      exact Ev.now _

theorem or_add {c d : Int} (hc : 0 ≤ c ∧ c ≤ 65535) (hd : 0 ≤ d ∧ d ≤ 255) : Go.bits .or .i64 (wrap64 (c * 256)) (wrap64 d) = c * 256 + d := by
  obtain ⟨x, rfl⟩ := nat_of hc.1
  obtain ⟨y, rfl⟩ := nat_of hd.1
  rw [wrap_id (by omega) (by omega), wrap_id (by omega) (by omega), show ((x : Int) * 256) = ((2 ^ 8 * x : Nat) : Int) by omega, or_nat (by omega) (by omega), ← Nat.two_pow_add_eq_or_of_lt (by omega : y < 2 ^ 8)]
  omega
theorem bt_extract (s : ByteArray) (i j n : Nat) (h : i + n < j) (hj : j ≤ s.size) : bt (s.extract i j) (n : Int) = bt s ((i + n : Nat) : Int) := by
  have h1 : n < (s.extract i j).size := by rw [ByteArray.size_extract]; omega
  unfold bt
  rw [dif_pos (by rw [Int.toNat_natCast]; exact h1), dif_pos (by rw [Int.toNat_natCast]; omega)]
  simp only [Int.toNat_natCast, ByteArray.getElem_extract]
theorem bt_frB (k a e : Int) (b : ByteArray) (hb : b.size ≤ 16) : bt (frB k a e b) 5 = (b.size : Int) := by
  rw [← rd_bytesOf]
  unfold frB hdL bytesOf
  show ((UInt8.ofNat ((b.size : Int) % 256).toNat).toNat : Int) = _
  rw [UInt8.toNat_ofNat']
  omega
/-- What a frame's bytes say. -/
def readV (s : ByteArray) : Int × Int × Int × ByteArray × Int × Bool :=
  if (s.size : Int) = 28 then
    (if (strOfNums (lowL ((Crc.sumL 0 (Crc.bl (s.extract 0 24)) : Nat) : Int))).toList = (s.extract 24 s.size).toList then
      (if goodF (bt s 0) (bt s 1 * 256 + bt s 2) (bt s 3 * 256 + bt s 4) (s.extract 6 (6 + mn 16 (bt s 5)).toNat) = true then
        (if (frB (bt s 0) (bt s 1 * 256 + bt s 2) (bt s 3 * 256 + bt s 4) (s.extract 6 (6 + mn 16 (bt s 5)).toNat)).toList = s.toList then
          (bt s 0, bt s 1 * 256 + bt s 2, bt s 3 * 256 + bt s 4, s.extract 6 (6 + mn 16 (bt s 5)).toNat, 0, true)
        else (0, 0, 0, (⟨#[]⟩ : ByteArray), 3, false))
      else (0, 0, 0, (⟨#[]⟩ : ByteArray), 3, false))
    else (0, 0, 0, (⟨#[]⟩ : ByteArray), 2, false))
  else (0, 0, 0, (⟨#[]⟩ : ByteArray), 1, false)

theorem impl_ReadFrame_ev (s : ByteArray) : Ev (fun k => impl_ReadFrame.f k s) (readV s) := by
  unfold impl_ReadFrame.f readV
  by_cases hs : (s.size : Int) = 28
  rotate_left
  · simp only [if_neg hs]; exact Ev.now _
  have hz : s.size = 28 := by omega
  have r0 := bt_range s 0
  have r1 := bt_range s 1
  have r2 := bt_range s 2
  have r3 := bt_range s 3
  have r4 := bt_range s 4
  have r5 := bt_range s 5
  have x24 : (s.extract 0 24).size = 24 := by rw [ByteArray.size_extract]; omega
  have p1 : (0 : Int) ≤ 24 := by omega
  have p2 : (24 : Int) ≤ (s.size : Int) := by omega
  have p3 : (0 : Int) < (s.size : Int) := by omega
  have p4 : (1 : Int) < (s.size : Int) := by omega
  have p5 : (2 : Int) < (s.size : Int) := by omega
  have p6 : (3 : Int) < (s.size : Int) := by omega
  have p7 : (4 : Int) < (s.size : Int) := by omega
  have p8 : (5 : Int) < (s.size : Int) := by omega
  simp only [if_pos hs, if_pos p1, if_pos p2]
  refine Ev.bind (impl_sumOn_ev 0 (s.extract 0 24) (by omega) (by decide)) ?_
  show Ev (fun k => if (s.extract 24 s.size).toList = (strOfNums (lowL ((Crc.sumL 0 (Crc.bl (s.extract 0 24)) : Nat) : Int))).toList then _ else _) _
  by_cases hl : (strOfNums (lowL ((Crc.sumL 0 (Crc.bl (s.extract 0 24)) : Nat) : Int))).toList = (s.extract 24 s.size).toList
  rotate_left
  · simp only [if_neg hl, if_neg (fun h => hl (Eq.symm h))]; exact Ev.now _
  have hm : 0 ≤ mn 16 (bt s 5) ∧ mn 16 (bt s 5) ≤ 16 := by unfold mn; split <;> omega
  have w5 : wrap64 (bt s 5) = bt s 5 := wrap_id (by omega) (by omega)
  have w0 : wrap64 (bt s 0) = bt s 0 := wrap_id (by omega) (by omega)
  have w1 : wrap64 (bt s 1) = bt s 1 := wrap_id (by omega) (by omega)
  have w3 : wrap64 (bt s 3) = bt s 3 := wrap_id (by omega) (by omega)
  have w6 : wrap64 (6 + mn 16 (bt s 5)) = 6 + mn 16 (bt s 5) := wrap_id (by omega) (by omega)
  have o1 : Go.bits .or .i64 (wrap64 (bt s 1 * 256)) (wrap64 (bt s 2)) = bt s 1 * 256 + bt s 2 := or_add (by omega) r2
  have o3 : Go.bits .or .i64 (wrap64 (bt s 3 * 256)) (wrap64 (bt s 4)) = bt s 3 * 256 + bt s 4 := or_add (by omega) r4
  have p10 : (6 : Int) ≤ 6 + mn 16 (bt s 5) := by omega
  have p11 : 6 + mn 16 (bt s 5) ≤ (s.size : Int) := by omega
  simp only [if_pos hl, if_pos hl.symm, if_pos p3, if_pos p4, if_pos p5, if_pos p6, if_pos p7, if_pos p8, w5, w0, w1, w3, w6, o1, o3, if_pos p10, if_pos p11, impl_GoodFrame_eq, Option.bind_some]
  cases hg : goodF (bt s 0) (bt s 1 * 256 + bt s 2) (bt s 3 * 256 + bt s 4) (s.extract 6 (6 + mn 16 (bt s 5)).toNat)
  · simp only [Bool.false_eq_true, if_false]; exact Ev.now _
  · simp only [if_true]
    refine Ev.bind (impl_frameBytes_ev _ _ _ _ (goodF_bd hg).2.2.2.2.2.2) ?_
    split <;> exact Ev.now _

def checkV (s : ByteArray) (a1 a2 a3 : Int) : Int × Int × Int × ByteArray × Int × Bool :=
  if (readV s).2.2.2.2.2 = true then (if (readV s).1 = a1 then (if (readV s).2.1 = a2 then (if (readV s).2.2.1 < a3 then (0, 0, 0, (⟨#[]⟩ : ByteArray), 5, false) else ((readV s).1, (readV s).2.1, (readV s).2.2.1, (readV s).2.2.2.1, 0, true)) else (0, 0, 0, (⟨#[]⟩ : ByteArray), 4, false)) else (0, 0, 0, (⟨#[]⟩ : ByteArray), 3, false)) else (0, 0, 0, (⟨#[]⟩ : ByteArray), (readV s).2.2.2.2.1, false)
theorem readV_code (s : ByteArray) : ((readV s).2.2.2.2.2 = true → (readV s).2.2.2.2.1 = 0) ∧ ((readV s).2.2.2.2.2 = false → ¬ (readV s).2.2.2.2.1 = 0) := by
  unfold readV
  repeat' split
  all_goals simp

theorem impl_CheckFrame_ev (s : ByteArray) (a1 a2 a3 : Int) : Ev (fun k => impl_CheckFrame.f k s a1 a2 a3) (checkV s a1 a2 a3) := by
  unfold impl_CheckFrame.f checkV
  refine Ev.bind (impl_ReadFrame_ev s) ?_
  have h := readV_code s
  generalize readV s = g at h
  obtain ⟨k, a, e, b, c, ok⟩ := g
  cases ok
  · have hc : ¬ c = 0 := h.2 rfl
    simp only [Bool.false_eq_true, if_false, if_neg hc]
    exact Ev.now _
  · obtain rfl : c = 0 := h.1 rfl
    have n3 : ¬ (3 : Nat) = 0 := by omega
    have n4 : ¬ (4 : Nat) = 0 := by omega
    have n5 : ¬ (5 : Nat) = 0 := by omega
    simp only [if_true, if_neg n3, if_neg n4, if_neg n5]
    repeat' split
    all_goals exact Ev.now _

/-- What ReadAll answers: the bodies of the frames, put together. -/
def raL (kd pl le : Int) : List ByteArray → Nat → List ByteArray → ByteArray × Int × Bool
  | [], _, acc => if (joinV acc).2 = true then ((joinV acc).1, 0, true) else ((⟨#[]⟩ : ByteArray), 3, false)
  | s :: l, i, acc => if (checkV s kd (wrap64 (pl + (i : Int))) le).2.2.2.2.2 = true then raL kd pl le l (i + 1) (acc ++ [(checkV s kd (wrap64 (pl + (i : Int))) le).2.2.2.1]) else ((⟨#[]⟩ : ByteArray), (checkV s kd (wrap64 (pl + (i : Int))) le).2.2.2.2.1, false)
def readAllV (l : List ByteArray) (kd pl le : Int) : ByteArray × Int × Bool := if 1 ≤ l.length ∧ l.length ≤ 10 then raL kd pl le l 0 [] else ((⟨#[]⟩ : ByteArray), 0, false)
theorem readV_body (s : ByteArray) : (readV s).2.2.2.1.size ≤ 16 := by
  unfold readV
  by_cases h1 : (s.size : Int) = 28
  rotate_left
  · rw [if_neg h1]; exact Nat.zero_le _
  rw [if_pos h1]
  split
  rotate_left
  · exact Nat.zero_le _
  split
  rotate_left
  · exact Nat.zero_le _
  rename_i hg
  split
  · exact (goodF_bd hg).2.2.2.2.2.2
  · exact Nat.zero_le _
theorem checkV_body (s : ByteArray) (a1 a2 a3 : Int) : (checkV s a1 a2 a3).2.2.2.1.size ≤ 16 := by
  have h := readV_body s
  unfold checkV
  repeat' split
  all_goals first | exact h | exact Nat.zero_le _
theorem catB_le : ∀ (l : List ByteArray), (∀ s ∈ l, s.size ≤ 16) → (catB l).size ≤ 16 * l.length
  | [], _ => Nat.le_refl _
  | t :: l, h => by
    have h1 := h t List.mem_cons_self
    have h2 := catB_le l (fun s hs => h s (List.mem_cons_of_mem _ hs))
    rw [catB_size, List.length_cons]; omega

theorem impl_ReadAll_l0 (kd pl le : Int) (l : List ByteArray) (hl : l.length ≤ 10) : ∀ (d i : Nat) (acc : List ByteArray), i + d = l.length → acc.length ≤ i → (∀ s ∈ acc, s.size ≤ 16) →
    Ev (fun k => impl_ReadAll.l0 k kd pl le acc l (l.length : Int) (i : Int)) (raL kd pl le (l.drop i) i acc) := by
  intro d
  induction d with
  | zero =>
    intro i acc hi ha hs
    obtain rfl : i = l.length := by omega
    rw [List.drop_length]
    have hc := catB_le acc hs
    refine Ev.step (f := fun k => (impl_JoinBody.f k acc).bind fun b => if b.2 = true then some (b.1, (0 : Int), true) else some ((⟨#[]⟩ : ByteArray), (3 : Int), false)) (fun k => by rw [impl_ReadAll.l0.eq_2, if_neg (by omega)]) ?_
    refine Ev.bind (f := fun k b => if b.2 = true then some (b.1, (0 : Int), true) else some ((⟨#[]⟩ : ByteArray), (3 : Int), false)) (impl_JoinBody_ev acc (by omega)) ?_
    unfold raL
    split <;> exact Ev.now _
  | succ d ih =>
    intro i acc hi ha hs
    have hlt : i < l.length := by omega
    rw [List.drop_eq_getElem_cons hlt]
    unfold raL
    refine Ev.step (f := fun k => (impl_CheckFrame.f k l[i] kd (wrap64 (pl + (i : Int))) le).bind fun b => if b.2.2.2.2.2 = true then (if acc.length < 8796093022208 then impl_ReadAll.l0 k kd pl le (acc ++ [b.2.2.2.1]) l (l.length : Int) ((i + 1 : Nat) : Int) else none) else some ((⟨#[]⟩ : ByteArray), b.2.2.2.2.1, false)) (fun k => by rw [impl_ReadAll.l0.eq_2, if_pos (by omega), if_pos (by omega), if_pos (by omega), rdOf_nat _ l i hlt, wrap_succ2 i (by omega)]) ?_
    refine Ev.bind (f := fun k b => if b.2.2.2.2.2 = true then (if acc.length < 8796093022208 then impl_ReadAll.l0 k kd pl le (acc ++ [b.2.2.2.1]) l (l.length : Int) ((i + 1 : Nat) : Int) else none) else some ((⟨#[]⟩ : ByteArray), b.2.2.2.2.1, false)) (impl_CheckFrame_ev l[i] kd (wrap64 (pl + (i : Int))) le) ?_
    have hbs := checkV_body l[i] kd (wrap64 (pl + (i : Int))) le
    generalize checkV l[i] kd (wrap64 (pl + (i : Int))) le = b at hbs
    by_cases hb : b.2.2.2.2.2 = true
    · simp only [if_pos hb, if_pos (show acc.length < 8796093022208 by omega)]
      exact ih (i + 1) _ (by omega) (by rw [List.length_append, List.length_singleton]; omega) (fun s h => by
        rcases List.mem_append.1 h with h | h
        · exact hs s h
        · rw [List.mem_singleton] at h
          rw [h]; exact hbs)
    · simp only [if_neg hb]
      exact Ev.now _
theorem impl_ReadAll_ev (l : List ByteArray) (kd pl le : Int) : Ev (fun k => impl_ReadAll.f k l kd pl le) (readAllV l kd pl le) := by
  unfold impl_ReadAll.f readAllV
  simp only [impl_within_eq, Option.bind_some]
  by_cases h : 1 ≤ l.length ∧ l.length ≤ 10
  · have z : (1 : Int) ≤ (l.length : Int) ∧ (l.length : Int) ≤ 10 := by omega
    rw [if_pos h]
    simp only [decide_eq_true z, if_true]
    exact impl_ReadAll_l0 kd pl le l h.2 l.length 0 [] (by omega) (Nat.zero_le _) (fun s h => by cases h)
  · have z : ¬ ((1 : Int) ≤ (l.length : Int) ∧ (l.length : Int) ≤ 10) := by omega
    rw [if_neg h]
    simp only [decide_eq_false z]
    exact Ev.now _

theorem laws_numberOf_ex {s : List Int} (hs : BY s) (hl : s.length ≤ 1048576) : ∃ n : Nat, Ev (fun k => laws_numberOf.f k s) (n : Int) ∧ n < 1000003 := by
  have h : ∀ d i m : Nat, i + d = s.length → m < 1000003 → ∃ n : Nat, Ev (fun k => laws_numberOf.l0 k (m : Int) s (s.length : Int) (i : Int)) (n : Int) ∧ n < 1000003 := by
    intro d
    induction d with
    | zero =>
      intro i m hi hm
      exact ⟨m, Ev.step (f := fun _ => some (m : Int)) (fun k => by simp only [laws_numberOf.l0]; rw [if_neg (by omega)]) (Ev.now _), hm⟩
    | succ d ih =>
      intro i m hi hm
      have hr := hs.rd (i : Int)
      have e1 : wrap64 (wrap64 (31 * (m : Int)) + wrap64 (rd s (i : Int))) = 31 * (m : Int) + rd s (i : Int) := by
        rw [wrap_in (n := 31 * (m : Int)) (by omega) (by omega), wrap_in (n := rd s (i : Int)) (by omega) (by omega), wrap_in (by omega) (by omega)]
      have ht := tmod_in (31 * (m : Int) + rd s (i : Int)) 1000003 (by omega) (by omega)
      obtain ⟨q, hq⟩ := nat_of ht.1
      obtain ⟨n, h1, h2⟩ := ih (i + 1) q (by omega) (by omega)
      refine ⟨n, Ev.step (f := fun k => laws_numberOf.l0 k (q : Int) s (s.length : Int) ((i + 1 : Nat) : Int)) (fun k => ?_) h1, h2⟩
      have ew : wrap64 ((i : Int) + 1) = ((i + 1 : Nat) : Int) := by rw [wrap_in (by omega) (by omega)]; omega
      simp only [laws_numberOf.l0, e1, hq, ew]
      rw [if_pos (by omega), if_pos (by omega), if_pos (by omega)]
  exact h s.length 0 0 (by omega) (by omega)

theorem spec_DrawSplitBody_ex {s : List Int} (hs : BY s) : ∃ v, Ev (fun k => spec_DrawSplitBody.f k s) v ∧ v.size ≤ 200 := by
  obtain ⟨v, a2, d2, E, g1, g2, g3⟩ := spec_l1Cur_body_ex hs (a := 0) 0 (by omega) (by omega)
  unfold spec_DrawSplitBody.f
  exact ⟨v, Ev.bind (f := fun k b => some b.1) E (Ev.now _), g1⟩

def nl (l : List Nat) : List Int := l.map fun n : Nat => (n : Int)
theorem nl_length (l : List Nat) : (nl l).length = l.length := by unfold nl; rw [List.length_map]
theorem bytesOf_nl (s : ByteArray) : bytesOf s = nl (Crc.bl s) := by
  unfold bytesOf nl Crc.bl
  rw [List.map_map]; rfl
theorem nl_rd (l : List Nat) (q : Nat) (hq : q < l.length) : rd (nl l) (q : Int) = ((l.getD q 0 : Nat) : Int) := by
  unfold rd nl
  rw [Int.toNat_natCast, List.getD_eq_getElem?_getD, List.getD_eq_getElem?_getD, List.getElem?_map, List.getElem?_eq_getElem hq]; rfl
theorem nl_set (l : List Nat) (q v : Nat) : (nl l).set q (v : Int) = nl (l.set q v) := by
  unfold nl
  rw [List.map_set]
theorem xor_byte {a b : Nat} (ha : a < 256) (hb : b < 256) : Go.bits .xor .u8 (a : Int) (b : Int) = ((a ^^^ b : Nat) : Int) := by
  have h : Go.bits .xor .u8 (a : Int) (b : Int) = IntKind.u8.wrap ((BitVec.ofInt 8 (a : Int) ^^^ BitVec.ofInt 8 (b : Int)).toNat : Int) := rfl
  have hx : a ^^^ b < 256 := Nat.xor_lt_two_pow (n := 8) ha hb
  rw [h, BitVec.toNat_xor, BitVec.ofInt_natCast, BitVec.ofInt_natCast, BitVec.toNat_ofNat, BitVec.toNat_ofNat, Nat.mod_eq_of_lt (by omega), Nat.mod_eq_of_lt (by omega)]
  have h2 : IntKind.u8.wrap ((a ^^^ b : Nat) : Int) = (((a ^^^ b : Nat) : Int)) % 256 := by simp [IntKind.wrap, IntKind.bits, IntKind.signed]
  rw [h2]; omega
theorem u64_nat (n : Nat) (h : n < 2 ^ 63) : IntKind.u64.wrap (n : Int) = (n : Int) := by
  have h' : n < 9223372036854775808 := h
  rw [IntKind.wrap_u64]; omega
theorem shl_one (m : Nat) (h : m < 8) : shl .u8 1 (m : Int) = ((2 ^ m : Nat) : Int) := by
  have : ∀ m : Fin 8, shl .u8 1 ((m.1 : Nat) : Int) = ((2 ^ m.1 : Nat) : Int) := by decide
  exact this ⟨m, h⟩
theorem shr_nat (c m : Nat) (h : m ≤ 64) : shr .i64 (c : Int) (m : Int) = ((c / 2 ^ m : Nat) : Int) := by
  unfold shr
  have hb : IntKind.i64.bits = 64 := rfl
  rw [Int.toNat_natCast, hb, Nat.min_eq_left h, Int.natCast_ediv, Int.natCast_pow]; rfl
theorem tdiv_nat (p : Nat) : Int.tdiv (p : Int) 8 = ((p / 8 : Nat) : Int) := rfl
theorem tmod_nat (p : Nat) : Int.tmod (p : Int) 8 = ((p % 8 : Nat) : Int) := rfl
theorem burst_zero : ∀ (d : Nat) (l : List Nat) (p : Nat), Burst.burst d l p 0 = l
  | 0, _, _ => rfl
  | d + 1, l, p => by
    unfold Burst.burst
    split
    · rw [if_neg (by omega)]; exact burst_zero d l (p + 1)
    · rfl
theorem bs_bl (s : ByteArray) : Burst.Bs (Crc.bl s) := Crc.bl_lt s
/-- A text with a burst. -/
def burstV (s : ByteArray) (a b : Int) : ByteArray × Bool :=
  if (s.size ≤ 400 ∧ 0 ≤ a ∧ a < 8 * (s.size : Int)) ∧ isS b = true then (strOfNums (nl (Burst.burst 32 (Crc.bl s) a.toNat b.toNat)), true) else (⟨#[]⟩, false)

/-- What SumOn answers. -/
def sumOnV (a : Int) (s : ByteArray) : Int × Bool := if isS a && decide (s.size ≤ 400) then (((Crc.sumL a.toNat (Crc.bl s) : Nat) : Int), true) else (0, false)

theorem bl_str {l : List Nat} (h : Burst.Bs l) : Crc.bl (strOfNums (nl l)) = l := by
  unfold Crc.bl
  rw [strOfNums_data]
  unfold nl
  rw [List.map_map, List.map_map]
  conv => rhs; rw [← List.map_id l]
  apply List.map_congr_left
  intro x hx
  show (UInt8.ofNat ((x : Int).toNat)).toNat = x
  rw [Int.toNat_natCast]
  simp [Nat.mod_eq_of_lt (h x hx)]
theorem bl_inj {a b : ByteArray} (h : Crc.bl a = Crc.bl b) : a = b := by
  unfold Crc.bl at h
  have h2 := (List.map_inj_right (fun x y hxy => UInt8.toNat_inj.1 hxy)).1 h
  cases a; cases b
  simp only [ByteArray.mk.injEq]
  exact Array.toList_inj.1 h2
theorem str_bl (s : ByteArray) : strOfNums (nl (Crc.bl s)) = s := bl_inj (bl_str (Crc.bl_lt s))
theorem shN_shs : ∀ n x, Crc.shN n x = Burst.shs n x
  | 0, _ => rfl
  | n + 1, x => shN_shs n (Burst.sh x)
theorem crc_same : ∀ (l : List Nat) (x : Nat), Crc.crcL l x = Burst.crc l x
  | [], _ => rfl
  | c :: l, x => by
    show Crc.crcL l (Crc.shN 8 (x ^^^ c)) = Burst.crc l (Burst.shs 8 (x ^^^ c))
    rw [shN_shs, crc_same l]
/-- The text with a burst. -/
def burstT (s : ByteArray) (p c : Nat) : ByteArray := strOfNums (nl (Burst.burst 32 (Crc.bl s) p c))
theorem burstT_bl (s : ByteArray) (p c : Nat) : Crc.bl (burstT s p c) = Burst.burst 32 (Crc.bl s) p c := bl_str (Burst.burst_bytes 32 p c (Crc.bl_lt s))
theorem burstT_size (s : ByteArray) (p c : Nat) : (burstT s p c).size = s.size := by rw [← Crc.bl_length, burstT_bl, Burst.burst_length, Crc.bl_length]
theorem burstT_back (s : ByteArray) {p c : Nat} (hc : c < 2 ^ 32) (hp : p ≤ 8 * s.size) : burstT (burstT s p c) p c = s := by
  apply bl_inj
  rw [burstT_bl, burstT_bl]
  exact Burst.burst_twice (Crc.bl_lt s) hc (by rw [Crc.bl_length]; exact hp)
/-- A burst that changes anything changes the sum. -/
theorem burstT_sum (s : ByteArray) {p c : Nat} (hc : c < 2 ^ 32) (hp : p ≤ 8 * s.size) : Crc.sumL 0 (Crc.bl s) = Crc.sumL 0 (Crc.bl (burstT s p c)) ↔ s = burstT s p c := by
  have h := Burst.burst_sum (Crc.bl_lt s) hc (by rw [Crc.bl_length]; exact hp) (0 ^^^ Crc.ones)
  constructor
  · intro e
    unfold Crc.sumL at e
    have e2 := congrArg (fun z => z ^^^ Crc.ones) e
    simp only [Nat.xor_assoc, Nat.xor_self, Nat.xor_zero] at e2
    rw [crc_same, crc_same, burstT_bl] at e2
    simp only [Nat.zero_xor] at h
    exact bl_inj ((h.1 e2).trans (burstT_bl s p c).symm)
  · intro e
    rw [← e]
theorem burstV_yes {s : ByteArray} {p c : Nat} (h : s.size ≤ 400) (hp : p < 8 * s.size) (hc : c < 2 ^ 32) : burstV s (p : Int) (c : Int) = (burstT s p c, true) := by
  unfold burstV
  rw [if_pos ⟨⟨h, by omega, by omega⟩, by unfold isS; exact decide_eq_true (by omega)⟩, Int.toNat_natCast, Int.toNat_natCast]
  rfl

theorem bl_append (a b : ByteArray) : Crc.bl (a ++ b) = Crc.bl a ++ Crc.bl b := by
  unfold Crc.bl
  rw [ByteArray.data_append, Array.toList_append, List.map_append]
theorem extract_join (s : ByteArray) (i : Nat) (h : i ≤ s.size) : s.extract 0 i ++ s.extract i s.size = s := by
  rw [ByteArray.extract_append_extract, Nat.min_eq_left (Nat.zero_le _), Nat.max_eq_right h]
  exact ByteArray.extract_zero_size
theorem lowL_T (n : Nat) (h : n < 4294967296) : Burst.T (Crc.bl (strOfNums (lowL (n : Int)))) = n := by
  have e : lowL (n : Int) = nl [n % 256, n / 256 % 256, n / 65536 % 256, n / 16777216 % 256] := by
    unfold lowL nl
    simp only [List.map_cons, List.map_nil, List.cons.injEq, and_true]
    exact ⟨by omega, by omega, by omega, by omega⟩
  rw [e, bl_str (by intro x hx; simp only [List.mem_cons, List.not_mem_nil, or_false] at hx; omega)]
  show n % 256 + 256 * (n / 256 % 256 + 256 * (n / 65536 % 256 + 256 * (n / 16777216 % 256 + 256 * 0))) = n
  omega
/-- A text that carries its own sum: its sum is one number. -/
theorem own_sum {s : ByteArray} (hs : s.size = 28) (h : (strOfNums (lowL ((Crc.sumL 0 (Crc.bl (s.extract 0 24)) : Nat) : Int))).toList = (s.extract 24 s.size).toList) :
    Crc.sumL 0 (Crc.bl s) = Burst.shs 32 Crc.ones ^^^ Crc.ones := by
  have hx := bytes_ext h
  have hj := extract_join s 24 (by omega)
  have hlt := Crc.sumL_lt (x := 0) (by decide) (Crc.bl_lt (s.extract 0 24))
  have hT := lowL_T _ hlt
  generalize hy : s.extract 0 24 = p at hx hj hlt hT
  rw [← hx] at hj
  have hb : Burst.Bs (Crc.bl (strOfNums (lowL ((Crc.sumL 0 (Crc.bl p) : Nat) : Int)))) := bs_bl _
  have hl : (Crc.bl (strOfNums (lowL ((Crc.sumL 0 (Crc.bl p) : Nat) : Int)))).length = 4 := by rw [Crc.bl_length, son_size]; rfl
  generalize hq : strOfNums (lowL ((Crc.sumL 0 (Crc.bl p) : Nat) : Int)) = q at hj hT hb hl
  rw [← hj, bl_append]
  have e0 : Crc.sumL 0 (Crc.bl p ++ Crc.bl q) = Crc.crcL (Crc.bl q) (Crc.crcL (Crc.bl p) (0 ^^^ Crc.ones)) ^^^ Crc.ones := by
    unfold Crc.sumL
    rw [Crc.crcL_append]
  have e1 : Crc.sumL 0 (Crc.bl p) = Crc.crcL (Crc.bl p) (0 ^^^ Crc.ones) ^^^ Crc.ones := rfl
  rw [e0, crc_same, Burst.crc_bp _ hb, hl, hT, Burst.bp_shs _ _ _ hlt, e1, ← Nat.xor_assoc, Nat.xor_self, Nat.zero_xor]
theorem readV_ok {s : ByteArray} {k a e : Int} {b : ByteArray} {c : Int} (h : readV s = (k, a, e, b, c, true)) : s.size = 28 ∧ (strOfNums (lowL ((Crc.sumL 0 (Crc.bl (s.extract 0 24)) : Nat) : Int))).toList = (s.extract 24 s.size).toList ∧ goodF k a e b = true ∧ frB k a e b = s ∧ c = 0 := by
  unfold readV at h
  split at h
  · rename_i h1
    split at h
    · rename_i h2
      split at h
      · rename_i h3
        split at h
        · rename_i h4
          injection h with q1 q2
          injection q2 with q2 q3
          injection q3 with q3 q4
          injection q4 with q4 q5
          injection q5 with q5 q6
          subst q1 q2 q3 q4
          exact ⟨by omega, h2, h3, bytes_ext h4, q5.symm⟩
        · exact absurd (show false = true from congrArg (fun q : Int × Int × Int × ByteArray × Int × Bool => q.2.2.2.2.2) h) (by decide)
      · exact absurd (show false = true from congrArg (fun q : Int × Int × Int × ByteArray × Int × Bool => q.2.2.2.2.2) h) (by decide)
    · exact absurd (show false = true from congrArg (fun q : Int × Int × Int × ByteArray × Int × Bool => q.2.2.2.2.2) h) (by decide)
  · exact absurd (show false = true from congrArg (fun q : Int × Int × Int × ByteArray × Int × Bool => q.2.2.2.2.2) h) (by decide)
/-- A burst in a frame shows. -/
theorem readV_burst {s : ByteArray} {k a e : Int} {b : ByteArray} {c : Int} {p m : Nat} (h : readV s = (k, a, e, b, c, true)) (hm : m < 2 ^ 32) (hp : p ≤ 8 * s.size) (hne : ¬ s = burstT s p m) : readV (burstT s p m) = (0, 0, 0, (⟨#[]⟩ : ByteArray), 2, false) := by
  obtain ⟨h1, h2, _⟩ := readV_ok h
  have hz := burstT_size s p m
  unfold readV
  rw [if_pos (by omega), if_neg]
  intro h3
  exact hne ((burstT_sum s hm hp).1 ((own_sum h1 h2).trans (own_sum (by omega) h3).symm))
theorem fr_split (k a e : Int) (b : ByteArray) : frB k a e b = strOfNums (hdL k a e b) ++ strOfNums (lowL ((Crc.sumL 0 (Crc.bl (strOfNums (hdL k a e b))) : Nat) : Int)) := by
  unfold frB
  rw [son_append]
theorem fr_body (k a e : Int) (b : ByteArray) : (frB k a e b).extract 6 (6 + b.size) = b := by
  have h : frB k a e b = strOfNums [k % 256, a / 256 % 256, a % 256, e / 256 % 256, e % 256, (b.size : Int) % 256] ++ (b ++ (strOfNums (List.replicate (18 - b.size) 0) ++ strOfNums (lowL ((Crc.sumL 0 (Crc.bl (strOfNums (hdL k a e b))) : Nat) : Int)))) := by
    rw [fr_split]
    conv => lhs; arg 1; unfold hdL
    rw [son_append, son_append, son_bytesOf, ByteArray.append_assoc, ByteArray.append_assoc]
  have h6 : (strOfNums [k % 256, a / 256 % 256, a % 256, e / 256 % 256, e % 256, (b.size : Int) % 256]).size = 6 := son_size _
  rw [h]
  generalize strOfNums [k % 256, a / 256 % 256, a % 256, e / 256 % 256, e % 256, (b.size : Int) % 256] = p at h6
  have := ByteArray.extract_append_size_add (a := p) (b := b ++ (strOfNums (List.replicate (18 - b.size) 0) ++ strOfNums (lowL ((Crc.sumL 0 (Crc.bl (strOfNums (hdL k a e b))) : Nat) : Int)))) (i := 0) (j := b.size)
  rw [h6] at this
  rw [this]
  exact ByteArray.extract_append_eq_left rfl
theorem fr_byte (k a e : Int) (b : ByteArray) (n : Nat) (x : Int) (h0 : 0 ≤ x) (h1 : x < 256) (hx : (hdL k a e b ++ lowL ((Crc.sumL 0 (Crc.bl (strOfNums (hdL k a e b))) : Nat) : Int))[n]? = some x) : bt (frB k a e b) (n : Int) = x := by
  rw [← rd_bytesOf]
  unfold frB
  generalize hdL k a e b ++ lowL ((Crc.sumL 0 (Crc.bl (strOfNums (hdL k a e b))) : Nat) : Int) = l at hx
  show (bytesOf (strOfNums l)).getD (n : Int).toNat 0 = x
  rw [Int.toNat_natCast, List.getD_eq_getElem?_getD]
  have e1 : (bytesOf (strOfNums l))[n]? = (l[n]?).map (fun y : Int => ((UInt8.ofNat y.toNat).toNat : Int)) := by
    unfold bytesOf strOfNums
    rw [List.getElem?_map]
    show Option.map _ ((l.map (fun y : Int => UInt8.ofNat y.toNat)).toArray.toList[n]?) = _
    rw [List.toList_toArray, List.getElem?_map, Option.map_map]; rfl
  rw [e1, hx]
  show ((UInt8.ofNat x.toNat).toNat : Int) = x
  rw [UInt8.toNat_ofNat']
  omega
theorem readV_frB {k a e : Int} {b : ByteArray} (h : goodF k a e b = true) : readV (frB k a e b) = (k, a, e, b, 0, true) := by
  obtain ⟨h1, h2, h3, h4, h5, h6, h7⟩ := goodF_bd h
  have b0 : bt (frB k a e b) 0 = k := fr_byte k a e b 0 k (by omega) (by omega) (by show some (k % 256) = some k; congr 1; omega)
  have b1 : bt (frB k a e b) 1 = a / 256 := fr_byte k a e b 1 _ (by omega) (by omega) (by show some (a / 256 % 256) = some (a / 256); congr 1; omega)
  have b2 : bt (frB k a e b) 2 = a % 256 := fr_byte k a e b 2 _ (by omega) (by omega) rfl
  have b3 : bt (frB k a e b) 3 = e / 256 := fr_byte k a e b 3 _ (by omega) (by omega) (by show some (e / 256 % 256) = some (e / 256); congr 1; omega)
  have b4 : bt (frB k a e b) 4 = e % 256 := fr_byte k a e b 4 _ (by omega) (by omega) rfl
  have b5 := bt_frB k a e b h7
  have hm : (6 + mn 16 (b.size : Int)).toNat = 6 + b.size := by unfold mn; split <;> omega
  have hb := fr_body k a e b
  have hz := frB_size k a e b h7
  have hl := hdL_length k a e b h7
  have x1 : (frB k a e b).extract 0 24 = strOfNums (hdL k a e b) := by
    rw [fr_split]
    exact ByteArray.extract_append_eq_left (by rw [son_size, hl])
  have x2 : (frB k a e b).extract 24 (frB k a e b).size = strOfNums (lowL ((Crc.sumL 0 (Crc.bl (strOfNums (hdL k a e b))) : Nat) : Int)) := by
    rw [hz, fr_split]
    exact ByteArray.extract_append_eq_right (by rw [son_size, hl]) (by rw [son_size, son_size, hl]; rfl)
  have ea : a / 256 * 256 + a % 256 = a := by omega
  have ee : e / 256 * 256 + e % 256 = e := by omega
  unfold readV
  rw [x1, x2, b0, b1, b2, b3, b4, b5, hm, hb, ea, ee, if_pos (by omega), if_pos rfl, if_pos h, if_pos rfl]

theorem cat_split2 : ∀ (f : Nat) (s : ByteArray), catB (splitL f s) = s
  | 0, s => app_nil s
  | f + 1, s => by
    unfold splitL
    split
    · show s.extract 0 16 ++ catB (splitL f (s.extract 16 s.size)) = s
      rw [cat_split2 f, extract_join s 16 (by omega)]
    · exact app_nil s
theorem splitL_few : ∀ (f : Nat) (s : ByteArray), 1 ≤ s.size → 16 * (splitL f s).length ≤ s.size + 15
  | 0, s, h => by simp only [splitL, List.length_singleton]; omega
  | f + 1, s, h => by
    unfold splitL
    split
    · have := splitL_few f (s.extract 16 s.size) (by rw [ByteArray.size_extract]; omega)
      rw [ByteArray.size_extract] at this
      rw [List.length_cons]; omega
    · simp only [List.length_singleton]; omega
/-- A frame of one's own is read back. -/
theorem check_own {k a e : Int} {b : ByteArray} (h : goodF k a e b = true) : checkV (frB k a e b) k a e = (k, a, e, b, 0, true) := by
  unfold checkV
  rw [readV_frB h]
  simp
theorem check_place {k a e p : Int} {b : ByteArray} (h : goodF k a e b = true) (hp : ¬ a = p) : checkV (frB k a e b) k p e = (0, 0, 0, (⟨#[]⟩ : ByteArray), 4, false) := by
  unfold checkV
  rw [readV_frB h]
  simp [hp]
def raEnd (acc : List ByteArray) : ByteArray × Int × Bool := if (joinV acc).2 = true then ((joinV acc).1, 0, true) else ((⟨#[]⟩ : ByteArray), 3, false)
theorem raL_own (k e pl : Int) : ∀ (l : List ByteArray) (m : List ByteArray) (i : Nat) (acc : List ByteArray), framesL k e (pl + (i : Int)) l = some m → raL k pl e m i acc = raEnd (acc ++ l)
  | [], m, i, acc, h => by
    injection h with h
    subst h
    rw [List.append_nil]; rfl
  | b :: l, m, i, acc, h => by
    unfold framesL at h
    split at h
    rotate_left
    · cases h
    rename_i hg
    obtain ⟨n, hn, rfl⟩ := Option.map_eq_some_iff.1 h
    have hb := goodF_bd hg
    have hw : wrap64 (pl + (i : Int)) = pl + (i : Int) := wrap_id (by omega) (by omega)
    show (if (checkV (frB k (pl + (i : Int)) e b) k (wrap64 (pl + (i : Int))) e).2.2.2.2.2 = true then raL k pl e n (i + 1) (acc ++ [(checkV (frB k (pl + (i : Int)) e b) k (wrap64 (pl + (i : Int))) e).2.2.2.1]) else ((⟨#[]⟩ : ByteArray), (checkV (frB k (pl + (i : Int)) e b) k (wrap64 (pl + (i : Int))) e).2.2.2.2.1, false)) = _
    rw [hw, check_own hg, if_pos rfl, raL_own k e pl l n (i + 1) (acc ++ [b]) (by rw [← hn]; congr 1; omega), List.append_assoc]; rfl
theorem raL_turned (k e pl : Int) : ∀ (j : Nat) (l : List ByteArray) (m : List ByteArray) (i : Nat) (acc : List ByteArray) (x : ByteArray), framesL k e (pl + (i : Int)) l = some m → m[j + 1]? = some x → raL k pl e (m.set j x) i acc = ((⟨#[]⟩ : ByteArray), 4, false)
  | _, [], m, i, acc, x, h, hx => by
    injection h with h
    subst h
    cases hx
  | j, b :: l, m, i, acc, x, h, hx => by
    unfold framesL at h
    split at h
    rotate_left
    · cases h
    rename_i hg
    obtain ⟨n, hn, rfl⟩ := Option.map_eq_some_iff.1 h
    have hb := goodF_bd hg
    have hw : wrap64 (pl + (i : Int)) = pl + (i : Int) := wrap_id (by omega) (by omega)
    cases j with
    | zero =>
      cases l with
      | nil =>
        injection hn with hn
        subst hn
        cases hx
      | cons c l =>
        unfold framesL at hn
        split at hn
        rotate_left
        · cases hn
        rename_i hg2
        obtain ⟨n2, hn2, rfl⟩ := Option.map_eq_some_iff.1 hn
        injection hx with hx
        subst hx
        show (if (checkV (frB k (pl + (i : Int) + 1) e c) k (wrap64 (pl + (i : Int))) e).2.2.2.2.2 = true then _ else ((⟨#[]⟩ : ByteArray), (checkV (frB k (pl + (i : Int) + 1) e c) k (wrap64 (pl + (i : Int))) e).2.2.2.2.1, false)) = _
        rw [hw, check_place hg2 (by omega), if_neg (by decide)]
    | succ j =>
      show (if (checkV (frB k (pl + (i : Int)) e b) k (wrap64 (pl + (i : Int))) e).2.2.2.2.2 = true then raL k pl e (n.set j x) (i + 1) (acc ++ [(checkV (frB k (pl + (i : Int)) e b) k (wrap64 (pl + (i : Int))) e).2.2.2.1]) else ((⟨#[]⟩ : ByteArray), (checkV (frB k (pl + (i : Int)) e b) k (wrap64 (pl + (i : Int))) e).2.2.2.2.1, false)) = _
      rw [hw, check_own hg, if_pos rfl]
      exact raL_turned k e pl j l n (i + 1) (acc ++ [b]) x (by rw [← hn]; congr 1; omega) (by simpa using hx)
theorem join_split {s : ByteArray} (h : 1 ≤ s.size ∧ s.size ≤ 160) : joinV (splitL 10 s) = (s, true) := by
  have h1 := splitL_few 10 s h.1
  have h2 : 1 ≤ (splitL 10 s).length := by
    have := splitL_ne 10 s
    cases hl : splitL 10 s with
    | nil => rw [hl] at this; cases this
    | cons x l => simp
  unfold joinV
  rw [if_pos ⟨h2, by omega⟩, ok_split 10 s h.1 (by omega), if_pos rfl, cat_split2]
theorem frameV_ok {k a e : Int} {s : ByteArray} {m : List ByteArray} (h : frameV k a e s = (m, true)) : (1 ≤ s.size ∧ s.size ≤ 160) ∧ framesL k e a (splitL 10 s) = some m := by
  unfold frameV splitV at h
  by_cases hs : 1 ≤ s.size ∧ s.size ≤ 160
  · rw [if_pos hs] at h
    refine ⟨hs, ?_⟩
    cases hf : framesL k e a (splitL 10 s) with
    | none => simp only [hf] at h; cases h
    | some n =>
      simp only [hf] at h
      injection h with h
      rw [h]
  · rw [if_neg hs] at h
    cases h
theorem read_back {k a e : Int} {s : ByteArray} {m : List ByteArray} (h : frameV k a e s = (m, true)) : readAllV m k a e = (s, 0, true) ∧ m.length ≤ 10 ∧ 1 ≤ m.length := by
  obtain ⟨hs, hf⟩ := frameV_ok h
  have hl := framesL_length _ _ _ _ _ hf
  have h1 := splitL_few 10 s hs.1
  have h2 : 1 ≤ (splitL 10 s).length := by
    have := splitL_ne 10 s
    cases hl : splitL 10 s with
    | nil => rw [hl] at this; cases this
    | cons x l => simp
  refine ⟨?_, by omega, by omega⟩
  unfold readAllV
  rw [if_pos ⟨by omega, by omega⟩, raL_own k e a (splitL 10 s) m 0 [] (by simpa using hf), List.nil_append]
  unfold raEnd
  rw [join_split hs, if_pos rfl]
theorem turned_back {k a e : Int} {s : ByteArray} {m : List ByteArray} {j : Nat} {x : ByteArray} (h : frameV k a e s = (m, true)) (hx : m[j + 1]? = some x) : readAllV (m.set j x) k a e = ((⟨#[]⟩ : ByteArray), 4, false) := by
  obtain ⟨_, hm, hm1⟩ := read_back h
  obtain ⟨hs, hf⟩ := frameV_ok h
  unfold readAllV
  rw [List.length_set, if_pos ⟨hm1, hm⟩]
  exact raL_turned k e a j (splitL 10 s) m 0 [] x (by simpa using hf) hx

theorem catB_le2 (n : Nat) : ∀ (l : List ByteArray), (∀ s ∈ l, s.size ≤ n) → (catB l).size ≤ n * l.length
  | [], _ => Nat.le_refl _
  | t :: l, h => by
    have h1 := h t List.mem_cons_self
    have h2 := catB_le2 n l (fun s hs => h s (List.mem_cons_of_mem _ hs))
    rw [catB_size, List.length_cons, Nat.mul_add]; omega
theorem splitL_sz : ∀ (f : Nat) (s : ByteArray), s.size ≤ 16 * (f + 1) → ∀ t ∈ splitL f s, t.size ≤ 16
  | 0, s, h, t, ht => by
    simp only [splitL, List.mem_singleton] at ht
    subst ht; omega
  | f + 1, s, h, t, ht => by
    unfold splitL at ht
    split at ht
    · rcases List.mem_cons.1 ht with ht | ht
      · subst ht; rw [ByteArray.size_extract]; omega
      · exact splitL_sz f _ (by rw [ByteArray.size_extract]; omega) t ht
    · rw [List.mem_singleton] at ht
      subst ht; omega
theorem splitV_sz (s : ByteArray) : ∀ t ∈ (splitV s).1, t.size ≤ 16 := by
  unfold splitV
  split
  · exact splitL_sz 10 s (by omega)
  · intro t ht; cases ht
theorem spec_DrawJoinBody_ex {s : List Int} (hs : BY s) : ∃ l, Ev (fun k => spec_DrawJoinBody.f k s) l ∧ (catB l).size ≤ 1048576 := by
  obtain ⟨v, a1, d1, E, g1, g2, g3⟩ := spec_l1Cur_body_ex hs (a := 0) 0 (by omega) (by omega)
  have ES := spec_SplitBody_ev v
  have hl := splitV_length v
  have hz := splitV_sz v
  generalize splitV v = g at ES hl hz
  obtain ⟨l, ok⟩ := g
  replace hl : l.length ≤ 11 := hl
  replace hz : ∀ t ∈ l, t.size ≤ 16 := hz
  have hc := catB_le2 16 l hz
  have hno : ∀ a d, ∃ l', Ev (fun k => spec_DrawJoinBody.j0 k l false s a d) l' ∧ (catB l').size ≤ 1048576 := fun a d => ⟨l, Ev.step (f := fun _ => some l) (fun k => by rw [spec_DrawJoinBody.j0.eq_2, if_neg (show ¬ (false = true) by decide)]) (Ev.now _), by omega⟩
  have hgo : ∃ l', Ev (fun k => if (l.length : Int) > 0 then ((spec_l1Cur_one.f s a1 d1 4).bind fun b => spec_DrawJoinBody.j0 k l b.1 s b.2.1 b.2.2) else spec_DrawJoinBody.j0 k l false s a1 d1) l' ∧ (catB l').size ≤ 1048576 := by
    by_cases h0 : 0 < l.length
    rotate_left
    · simp only [if_neg (show ¬ (l.length : Int) > 0 by omega)]
      exact hno a1 d1
    simp only [if_pos (show (l.length : Int) > 0 by omega)]
    obtain ⟨b, a2, d2, e2, k1, k2⟩ := spec_l1Cur_one_ex hs d1 4 g2 (by omega)
    simp only [e2, Option.bind_some]
    cases b with
    | false => exact hno a2 d2
    | true =>
      obtain ⟨i, a3, d3, e3, q0, q1, q2, q3, q4⟩ := spec_l1Cur_pick_ex hs d2 (l.length : Int) k1 (by omega)
      obtain ⟨i, rfl⟩ := nat_of q0
      obtain ⟨t, a4, d4, e4, ht, z1, z2⟩ := spec_l1Cur_of_ex hs d3 ([(⟨#[]⟩ : ByteArray), (⟨#[120]⟩ : ByteArray)] : List ByteArray) q3 (by omega) (by decide)
      have hts : t.size ≤ 16 := by
        simp only [List.mem_cons, List.not_mem_nil, or_false] at ht
        rcases ht with rfl | rfl <;> decide
      have hc2 := catB_le2 16 (l.set i t) (fun r hr => by
        rcases List.mem_or_eq_of_mem_set hr with h | h
        · exact hz r h
        · rw [h]; exact hts)
      rw [List.length_set] at hc2
      refine ⟨l.set i t, Ev.step (f := fun _ => some (l.set i t)) (fun k => ?_) (Ev.now _), by omega⟩
      rw [spec_DrawJoinBody.j0.eq_2, if_pos rfl, e3, Option.bind_some, e4, Option.bind_some, if_pos (by omega), if_pos (by omega), Int.toNat_natCast]
  obtain ⟨l', E2, hl'⟩ := hgo
  unfold spec_DrawJoinBody.f
  refine ⟨l', Ev.bind (f := fun k b => (spec_SplitBody.f k b.1).bind fun c => if (c.1.length : Int) > 0 then ((spec_l1Cur_one.f s b.2.1 b.2.2 4).bind fun d => spec_DrawJoinBody.j0 k c.1 d.1 s d.2.1 d.2.2) else spec_DrawJoinBody.j0 k c.1 false s b.2.1 b.2.2) E ?_, hl'⟩
  exact Ev.bind (f := fun k c => if (c.1.length : Int) > 0 then ((spec_l1Cur_one.f s a1 d1 4).bind fun d => spec_DrawJoinBody.j0 k c.1 d.1 s d.2.1 d.2.2) else spec_DrawJoinBody.j0 k c.1 false s a1 d1) ES E2

theorem spec_JoinBody_l0 (l : List ByteArray) (hl : l.length ≤ 10) : ∀ (d i : Nat) (acc : ByteArray), i + d = l.length → acc.size ≤ 16 * i →
    Ev (fun k => spec_JoinBody.l0 k l acc l (l.length : Int) (i : Int)) (if okJ (l.drop i) then (acc ++ catB (l.drop i), true) else (⟨#[]⟩, false)) := by
  intro d
  induction d with
  | zero =>
    intro i acc hi ha
    obtain rfl : i = l.length := by omega
    have e : (if okJ (l.drop l.length) then (acc ++ catB (l.drop l.length), true) else ((⟨#[]⟩ : ByteArray), false)) = (acc, true) := by
      rw [List.drop_length, show okJ [] = true from rfl, if_pos rfl, show catB [] = ⟨#[]⟩ from rfl, app_nil]
    rw [e]
    exact Ev.step (f := fun _ => some (acc, true)) (fun k => by simp only [spec_JoinBody.l0]; rw [if_neg (by omega)]) (Ev.now _)
  | succ d ih =>
    intro i acc hi ha
    have hlt : i < l.length := by omega
    have hw : wrap64 ((l.length : Int) - 1) = ((l.length - 1 : Nat) : Int) := by rw [wrap_id (by omega) (by omega)]; omega
    have hem : (l.drop (i + 1)).isEmpty = decide (i + 1 = l.length) := by
      rw [Bool.eq_iff_iff, List.isEmpty_iff, decide_eq_true_eq, List.drop_eq_nil_iff]; omega
    rw [List.drop_eq_getElem_cons hlt]
    have hstep : ∀ {v : ByteArray × Bool}, Ev (fun k => (if l[i].toList = ([] : List UInt8) then some ((⟨#[]⟩ : ByteArray), false) else if (l[i].size : Int) > 16 then some ((⟨#[]⟩ : ByteArray), false) else if (i : Int) < ((l.length - 1 : Nat) : Int) then (if (l[i].size : Int) < 16 then some ((⟨#[]⟩ : ByteArray), false) else if acc.size + l[i].size ≤ 9223372036854775807 then spec_JoinBody.l0 k l (acc ++ l[i]) l (l.length : Int) ((i + 1 : Nat) : Int) else none) else if acc.size + l[i].size ≤ 9223372036854775807 then spec_JoinBody.l0 k l (acc ++ l[i]) l (l.length : Int) ((i + 1 : Nat) : Int) else none)) v → Ev (fun k => spec_JoinBody.l0 k l acc l (l.length : Int) (i : Int)) v := by
      intro v h
      refine Ev.step (fun k => ?_) h
      simp only [spec_JoinBody.l0, rdOf_nat _ l i hlt, wrap_succ2 i (by omega), hw]
      rw [if_pos (by omega), if_pos (by omega), if_pos (by omega)]
    apply hstep
    show Ev _ (if okJ (l[i] :: l.drop (i + 1)) then (acc ++ (l[i] ++ catB (l.drop (i + 1))), true) else (⟨#[]⟩, false))
    generalize l[i] = t
    have ihh := fun (hs : t.size ≤ 16) => ih (i + 1) (acc ++ t) (by omega) (by rw [ByteArray.size_append]; omega)
    rw [app_assoc] at ihh
    simp only [okJ, hem]
    by_cases h1 : t.size = 0
    · simp only [if_pos ((toList_nil t).2 h1)]
      rw [decide_eq_false (by omega), Bool.false_and]
      exact Ev.now _
    simp only [if_neg (fun h => h1 ((toList_nil t).1 h))]
    by_cases h2 : t.size ≤ 16
    rotate_left
    · simp only [if_pos (show (t.size : Int) > 16 by omega)]
      rw [decide_eq_false (by omega), Bool.false_and]
      exact Ev.now _
    simp only [if_neg (show ¬ (t.size : Int) > 16 by omega), if_pos (show acc.size + t.size ≤ 9223372036854775807 by omega)]
    rw [decide_eq_true (show 1 ≤ t.size ∧ t.size ≤ 16 by omega), Bool.true_and]
    by_cases h3 : i + 1 = l.length
    · simp only [if_neg (show ¬ (i : Int) < ((l.length - 1 : Nat) : Int) by omega)]
      rw [decide_eq_true h3, Bool.true_or, Bool.true_and]
      exact ihh h2
    · simp only [if_pos (show (i : Int) < ((l.length - 1 : Nat) : Int) by omega)]
      rw [decide_eq_false h3, Bool.false_or]
      by_cases h4 : t.size = 16
      · simp only [if_neg (show ¬ (t.size : Int) < 16 by omega)]
        rw [decide_eq_true h4, Bool.true_and]
        exact ihh h2
      · simp only [if_pos (show (t.size : Int) < 16 by omega)]
        rw [decide_eq_false h4, Bool.false_and]
        exact Ev.now _
theorem spec_JoinBody_ev (l : List ByteArray) : Ev (fun k => spec_JoinBody.f k l) (joinV l) := by
  unfold spec_JoinBody.f joinV
  simp only [spec_l1In_eq, Option.bind_some]
  by_cases h : 1 ≤ l.length ∧ l.length ≤ 10
  · have z : (1 : Int) ≤ (l.length : Int) ∧ (l.length : Int) ≤ 10 := by omega
    rw [if_pos h]
    simp only [decide_eq_true z, if_true]
    have := spec_JoinBody_l0 l h.2 l.length 0 ⟨#[]⟩ (by omega) (Nat.zero_le _)
    rwa [List.drop_zero, nil_app] at this
  · have z : ¬ ((1 : Int) ≤ (l.length : Int) ∧ (l.length : Int) ≤ 10) := by omega
    rw [if_neg h]
    simp only [decide_eq_false z]
    exact Ev.now _

theorem sp_succ (i : Nat) (h : i ≤ 100000) : wrap64 ((i : Int) + 1) = ((i + 1 : Nat) : Int) := by rw [wrap_in (by omega) (by omega)]; omega
theorem sp_pred (i : Nat) (h : i ≤ 100000) : wrap64 (((i + 1 : Nat) : Int) - 1) = (i : Int) := by rw [wrap_in (by omega) (by omega)]; omega
theorem or_lt {v n : Int} (h : v < n ∨ v = 0) (hn : n > 0) : v < n := by omega
theorem spec_l1Cur_spoilt_l0 {s : List Int} (hs : BY s) (B : ByteArray) (hB : B.size = 3) : ∀ (n : Nat) (t : ByteArray) (a d : Int), n ≤ 10 → t.size + n ≤ 1000 → 0 ≤ a → a ≤ 700000000000 - 6 * n → ∃ v a' d', Ev (fun k => spec_l1Cur_spoilt.l0 k t B (n : Int) s a d) (v, a', d') ∧ 0 ≤ a' ∧ a' ≤ a + 6 * n := by
  have stop : ∀ (t : ByteArray) (n a d : Int), Ev (fun k => spec_l1Cur_spoilt.j1 k t B n false s a d) (t, a, d) := fun t n a d =>
    Ev.step (f := fun _ => some (t, a, d)) (fun k => by simp only [spec_l1Cur_spoilt.j1, Bool.false_eq_true, if_false]) (Ev.now _)
  have hz : (B.size : Int) = 3 := by rw [hB]; rfl
  intro n
  induction n with
  | zero =>
    intro t a d _ ht ha hb
    refine ⟨t, a, d, ?_, by omega, by omega⟩
    exact Ev.step (f := fun k => spec_l1Cur_spoilt.j1 k t B ((0 : Nat) : Int) false s a d) (fun k => by simp only [spec_l1Cur_spoilt.l0]; rw [if_neg (by omega)]) (stop _ _ _ _)
  | succ n ih =>
    intro t a d hn ht ha hb
    have hp : ((n + 1 : Nat) : Int) > 0 := by omega
    by_cases h0 : (t.size : Int) > 0
    rotate_left
    · refine ⟨t, a, d, ?_, by omega, by omega⟩
      refine Ev.step (f := fun k => spec_l1Cur_spoilt.j1 k t B ((n + 1 : Nat) : Int) false s a d) (fun k => ?_) (stop _ _ _ _)
      simp only [spec_l1Cur_spoilt.l0]
      rw [if_pos hp, decide_eq_false h0]
    obtain ⟨v1, a1, d1, e1, h1, h2, h3, h4, h5⟩ := spec_l1Cur_pick_ex hs d (t.size : Int) ha (by omega)
    replace h2 := or_lt h2 h0
    obtain ⟨v2, a2, d2, e2, g1, g2, g3, g4, g5⟩ := spec_l1Cur_pick_ex hs d1 (B.size : Int) h4 (by omega)
    replace g2 := or_lt g2 (by rw [hz]; decide)
    obtain ⟨v3, a3, d3, e3, k1, k2, k3, k4, k5⟩ := spec_l1Cur_pick_ex hs d2 3 g4 (by omega)
    have h6 : a3 ≤ a + 6 := by omega
    clear k1 k2 k3 k5 g3 g5 h5 h3 g4 h4
    obtain ⟨i, rfl⟩ := nat_of h1
    have hi : i < t.size := Int.ofNat_lt.1 h2
    have ew := sp_succ i (by omega)
    have ew2 := sp_pred n (by omega)
    have c1 : (0 : Int) ≤ v2 := g1
    have c2 : v2 < (B.size : Int) := g2
    have c3 : (0 : Int) ≤ (i : Int) := by omega
    have c4 : (i : Int) ≤ (t.size : Int) := by omega
    have c5 : (0 : Int) ≤ ((i + 1 : Nat) : Int) := by omega
    have c6 : ((i + 1 : Nat) : Int) ≤ (t.size : Int) := by omega
    have one : ∀ x : Int, (strOfNums [x]).size = 1 := fun x => son_size _
    have s1 : (t.extract 0 i).size = i := by rw [ByteArray.size_extract]; omega
    have s2 : (t.extract i t.size).size = t.size - i := by rw [ByteArray.size_extract]; omega
    have s3 : (t.extract (i + 1) t.size).size = t.size - (i + 1) := by rw [ByteArray.size_extract]; omega
    have go : ∀ t' : ByteArray, t'.size ≤ t.size + 1 → (∀ k, spec_l1Cur_spoilt.j1 (k + 1) t B ((n + 1 : Nat) : Int) true s a d = spec_l1Cur_spoilt.l0 k t' B (n : Int) s a3 d3) →
        ∃ v a' d', Ev (fun k => spec_l1Cur_spoilt.l0 k t B ((n + 1 : Nat) : Int) s a d) (v, a', d') ∧ 0 ≤ a' ∧ a' ≤ a + 6 * ((n + 1 : Nat) : Int) := by
      intro t' ht' hk
      obtain ⟨v, a4, d4, e4, m1, m2⟩ := ih t' a3 d3 (by omega) (by omega) k4 (by omega)
      refine ⟨v, a4, d4, ?_, m1, by omega⟩
      refine Ev.step (f := fun k => spec_l1Cur_spoilt.j1 k t B ((n + 1 : Nat) : Int) true s a d) (fun k => ?_) ?_
      · simp only [spec_l1Cur_spoilt.l0]
        rw [if_pos hp, decide_eq_true h0]
      · exact Ev.step (f := fun k => spec_l1Cur_spoilt.l0 k t' B (n : Int) s a3 d3) hk e4
    by_cases q0 : v3 = 0
    · refine go ((t.extract 0 i ++ strOfNums [bt B v2]) ++ t.extract i t.size) (by simp only [ByteArray.size_append, one, s1, s2]; omega) (fun k => ?_)
      simp only [spec_l1Cur_spoilt.j1, if_true, e1, e2, e3, Option.bind_some, if_pos c1, if_pos c2, if_pos q0, if_pos c3, if_pos c4, Int.toNat_natCast, ew2]
      rw [if_pos (by rw [s1, one]; omega), if_pos (by rw [ByteArray.size_append, s1, one, s2]; omega)]
    by_cases q1 : v3 = 1
    · refine go ((t.extract 0 i ++ strOfNums [bt B v2]) ++ t.extract (i + 1) t.size) (by simp only [ByteArray.size_append, one, s1, s3]; omega) (fun k => ?_)
      simp only [spec_l1Cur_spoilt.j1, if_true, e1, e2, e3, Option.bind_some, if_pos c1, if_pos c2, if_neg q0, if_pos q1, if_pos c3, if_pos c4, ew, if_pos c5, if_pos c6, Int.toNat_natCast, ew2]
      rw [if_pos (by rw [s1, one]; omega), if_pos (by rw [ByteArray.size_append, s1, one, s3]; omega)]
    · refine go (t.extract 0 i ++ t.extract (i + 1) t.size) (by simp only [ByteArray.size_append, s1, s3]; omega) (fun k => ?_)
      simp only [spec_l1Cur_spoilt.j1, if_true, e1, e2, e3, Option.bind_some, if_pos c1, if_pos c2, if_neg q0, if_neg q1, if_pos c3, if_pos c4, ew, if_pos c5, if_pos c6, Int.toNat_natCast, ew2]
      rw [if_pos (by rw [s1, s3]; omega)]
theorem spec_l1Cur_spoilt_ex {s : List Int} (hs : BY s) (t : ByteArray) {a : Int} (d : Int) (ht : t.size ≤ 100) (ha : 0 ≤ a) (hb : a ≤ 600000000000) : ∃ v a' d', Ev (fun k => spec_l1Cur_spoilt.f k s a d t (⟨#[0, 1, 255]⟩ : ByteArray)) (v, a', d') ∧ 0 ≤ a' ∧ a' ≤ a + 30 := by
  obtain ⟨v1, a1, d1, e1, h1, h2, h3, h4, h5⟩ := spec_l1Cur_pick_ex hs d 3 ha (by omega)
  obtain ⟨n, rfl⟩ := nat_of h1
  obtain ⟨v, a2, d2, e2, h6, h7⟩ := spec_l1Cur_spoilt_l0 hs (⟨#[0, 1, 255]⟩ : ByteArray) rfl n t a1 d1 (by omega) (by omega) h4 (by omega)
  refine ⟨v, a2, d2, ?_, h6, by omega⟩
  unfold spec_l1Cur_spoilt.f
  simp only [e1, Option.bind_some]
  exact e2

theorem spec_l1Cur_sector_ex {s : List Int} (hs : BY s) {a : Int} (d : Int) (ha : 0 ≤ a) (hb : a ≤ 500000000000) : ∃ v a' d', Ev (fun k => spec_l1Cur_sector.f k s a d) (v, a', d') ∧ 0 ≤ a' ∧ a' ≤ a + 60 := by
  obtain ⟨x, y, z, b, a1, d1, e1, h1, h2, h3⟩ := spec_l1Cur_frame_ex hs d ha (by omega)
  obtain ⟨v, a2, d2, e2, h4, h5⟩ := spec_l1Cur_one_ex hs d1 3 h2 (by omega)
  have E := spec_FrameBytes_ev x y z b
  have hg : (if goodF x y z b = true then (frB x y z b, true) else ((⟨#[]⟩ : ByteArray), false)).1.size ≤ 100 := by
    split
    · rename_i h
      rw [frB_size _ _ _ _ (goodF_bd h).2.2.2.2.2.2]; omega
    · exact Nat.zero_le _
  generalize (if goodF x y z b = true then (frB x y z b, true) else ((⟨#[]⟩ : ByteArray), false)) = g at E hg
  obtain ⟨u, ok⟩ := g
  unfold spec_l1Cur_sector.f
  cases v
  · refine ⟨u, a2, d2, ?_, h4, by omega⟩
    simp only [e1, Option.bind_some]
    refine Ev.bind E ?_
    simp only [e2, Option.bind_some, Bool.false_eq_true, if_false]
    exact Ev.now _
  · obtain ⟨t, a3, d3, e3, h6, h7⟩ := spec_l1Cur_spoilt_ex hs u d2 hg h4 (by omega)
    refine ⟨t, a3, d3, ?_, h6, by omega⟩
    simp only [e1, Option.bind_some]
    refine Ev.bind E ?_
    simp only [e2, Option.bind_some, if_true]
    exact Ev.bind e3 (Ev.now _)

set_option maxHeartbeats 4000000 in
theorem spec_DrawReadAll_ex {s : List Int} (hs : BY s) : ∃ l x y z, Ev (fun k => spec_DrawReadAll.f k s) (l, x, y, z) := by
  obtain ⟨x, y, z, b, a1, d1, e1, h1, h2, h3⟩ := spec_l1Cur_frame_ex hs (a := 0) 0 (by omega) (by omega)
  obtain ⟨v, a2, d2, E, g1, g2, g3⟩ := spec_l1Cur_body_ex hs d1 h2 (by omega)
  have EF := spec_FrameAll_ev x y z (by have := h1.2.2.1; have := h1.2.2.2.1; omega) v
  generalize frameV x y z v = g at EF
  obtain ⟨l, ok⟩ := g
  have hno : ∀ a d, 0 ≤ a → a ≤ 100000 → ∃ l' p q r, Ev (fun k => spec_DrawReadAll.j0 k l false s a d x y z b) (l', p, q, r) := fun a d ha hb => by
    obtain ⟨w, a4, d4, e4, q0, q1, q2, q3, q4⟩ := spec_l1Cur_pick_ex hs d 3 ha (by omega)
    exact ⟨l, x, y, wrap64 (wrap64 (z + w) - 1), Ev.step (f := fun _ => some (l, x, y, wrap64 (wrap64 (z + w) - 1))) (fun k => by rw [spec_DrawReadAll.j0.eq_2, if_neg (show ¬ (false = true) by decide), e4, Option.bind_some]) (Ev.now _)⟩
  have hgo : ∃ l' p q r, Ev (fun k => if (l.length : Int) > 0 then ((spec_l1Cur_one.f s a2 d2 3).bind fun c => spec_DrawReadAll.j0 k l c.1 s c.2.1 c.2.2 x y z b) else spec_DrawReadAll.j0 k l false s a2 d2 x y z b) (l', p, q, r) := by
    by_cases h0 : 0 < l.length
    rotate_left
    · simp only [if_neg (show ¬ (l.length : Int) > 0 by omega)]
      exact hno a2 d2 g2 (by omega)
    simp only [if_pos (show (l.length : Int) > 0 by omega)]
    obtain ⟨c, a3, d3, e3, k1, k2⟩ := spec_l1Cur_one_ex hs d2 3 g2 (by omega)
    simp only [e3, Option.bind_some]
    cases c with
    | false => exact hno a3 d3 k1 (by omega)
    | true =>
      obtain ⟨i, a4, d4, e4, q0, q1, q2, q3, q4⟩ := spec_l1Cur_pick_ex hs d3 (l.length : Int) k1 (by omega)
      obtain ⟨i, rfl⟩ := nat_of q0
      obtain ⟨t, a5, d5, E5, z1, z2⟩ := spec_l1Cur_sector_ex hs d4 q3 (by omega)
      obtain ⟨w, a6, d6, e6, y0, y1, y2, y3, y4⟩ := spec_l1Cur_pick_ex hs d5 3 z1 (by omega)
      refine ⟨l.set i t, x, y, wrap64 (wrap64 (z + w) - 1), Ev.step (f := fun k => (spec_l1Cur_sector.f k s a4 d4).bind fun u => if 0 ≤ (i : Int) then (if (i : Int) < (l.length : Int) then ((spec_l1Cur_pick.f s u.2.1 u.2.2 3).bind fun w => some (l.set (i : Int).toNat u.1, x, y, wrap64 (wrap64 (z + w.1) - 1))) else none) else none) (fun k => ?_) (Ev.bind (f := fun k u => if 0 ≤ (i : Int) then (if (i : Int) < (l.length : Int) then ((spec_l1Cur_pick.f s u.2.1 u.2.2 3).bind fun w => some (l.set (i : Int).toNat u.1, x, y, wrap64 (wrap64 (z + w.1) - 1))) else none) else none) E5 ?_)⟩
      · rw [spec_DrawReadAll.j0.eq_2, if_pos rfl, e4, Option.bind_some]
      · simp only [if_pos (show (0 : Int) ≤ (i : Int) by omega), if_pos (show (i : Int) < (l.length : Int) by omega), e6, Option.bind_some]
        exact Ev.now _
  obtain ⟨l', p, q, r, E2⟩ := hgo
  unfold spec_DrawReadAll.f
  simp only [e1, Option.bind_some]
  refine ⟨l', p, q, r, Ev.bind (f := fun k c => (spec_FrameAll.f k x y z c.1).bind fun f => if (f.1.length : Int) > 0 then ((spec_l1Cur_one.f s c.2.1 c.2.2 3).bind fun g => spec_DrawReadAll.j0 k f.1 g.1 s g.2.1 g.2.2 x y z b) else spec_DrawReadAll.j0 k f.1 false s c.2.1 c.2.2 x y z b) E ?_⟩
  exact Ev.bind (f := fun k f => if (f.1.length : Int) > 0 then ((spec_l1Cur_one.f s a2 d2 3).bind fun g => spec_DrawReadAll.j0 k f.1 g.1 s g.2.1 g.2.2 x y z b) else spec_DrawReadAll.j0 k f.1 false s a2 d2 x y z b) EF E2

theorem spec_l6Value_one (s : ByteArray) (hs : s.size = 1) : Ev (fun k => spec_l6Value.f k s) (bt s 0) := by
  have r0 := bt_range s 0
  have e0 : Go.bits .or .i64 (wrap64 (0 * 256)) (wrap64 (bt s 0)) = bt s 0 := by rw [or_add (by omega) r0]; omega
  have ew : wrap64 (0 + 1) = 1 := wrap_id (by omega) (by omega)
  refine Ev.step (f := fun k => spec_l6Value.l0 k s (bt s 0) 1) (fun k => ?_) ?_
  · unfold spec_l6Value.f; rw [spec_l6Value.l0.eq_2, if_pos (by omega), if_pos (by omega), e0, ew]
  · exact Ev.step (f := fun _ => some (bt s 0)) (fun k => by rw [spec_l6Value.l0.eq_2, if_neg (by omega)]) (Ev.now _)
theorem spec_l6Value_two (s : ByteArray) (hs : s.size = 2) : Ev (fun k => spec_l6Value.f k s) (bt s 0 * 256 + bt s 1) := by
  have r0 := bt_range s 0
  have r1 := bt_range s 1
  have e0 : Go.bits .or .i64 (wrap64 (0 * 256)) (wrap64 (bt s 0)) = bt s 0 := by rw [or_add (by omega) r0]; omega
  have e1 : Go.bits .or .i64 (wrap64 (bt s 0 * 256)) (wrap64 (bt s 1)) = bt s 0 * 256 + bt s 1 := or_add (by omega) r1
  have ew : wrap64 (0 + 1) = 1 := wrap_id (by omega) (by omega)
  have ew2 : wrap64 (1 + 1) = 2 := wrap_id (by omega) (by omega)
  refine Ev.step (f := fun k => spec_l6Value.l0 k s (bt s 0) 1) (fun k => ?_) ?_
  · unfold spec_l6Value.f; rw [spec_l6Value.l0.eq_2, if_pos (by omega), if_pos (by omega), e0, ew]
  refine Ev.step (f := fun k => spec_l6Value.l0 k s (bt s 0 * 256 + bt s 1) 2) (fun k => ?_) ?_
  · rw [spec_l6Value.l0.eq_2, if_pos (by omega), if_pos (by omega), e1, ew2]
  · exact Ev.step (f := fun _ => some (bt s 0 * 256 + bt s 1)) (fun k => by rw [spec_l6Value.l0.eq_2, if_neg (by omega)]) (Ev.now _)

theorem spec_ReadFrame_ev (s : ByteArray) : Ev (fun k => spec_ReadFrame.f k s) (readV s) := by
  unfold spec_ReadFrame.f readV
  by_cases hs : (s.size : Int) = 28
  rotate_left
  · simp only [if_neg hs]; exact Ev.now _
  have hz : s.size = 28 := by omega
  have r5 := bt_range s 5
  have x24 : (s.extract 0 24).size = 24 := by rw [ByteArray.size_extract]; omega
  have p1 : (0 : Int) ≤ 24 := by omega
  have p2 : (24 : Int) ≤ (s.size : Int) := by omega
  have p3 : (0 : Int) ≤ 1 := by omega
  have p4 : (1 : Int) ≤ (s.size : Int) := by omega
  have p5 : (1 : Int) ≤ 3 := by omega
  have p6 : (3 : Int) ≤ (s.size : Int) := by omega
  have p7 : (3 : Int) ≤ 5 := by omega
  have p8 : (5 : Int) ≤ (s.size : Int) := by omega
  have p9 : (5 : Int) < (s.size : Int) := by omega
  simp only [if_pos hs, if_pos p1, if_pos p2]
  refine Ev.bind (spec_l5On_ev 0 (s.extract 0 24) (by omega) (by decide)) ?_
  refine Ev.bind (spec_l6Low_ev _) ?_
  by_cases hl : (strOfNums (lowL ((Crc.sumL 0 (Crc.bl (s.extract 0 24)) : Nat) : Int))).toList = (s.extract 24 s.size).toList
  rotate_left
  · simp only [if_neg hl]; exact Ev.now _
  simp only [if_pos hl, if_pos p3, if_pos p4, if_pos p5, if_pos p6, if_pos p7, if_pos p8, if_pos p9]
  have E1 := spec_l6Value_one (s.extract 0 1) (by rw [ByteArray.size_extract]; omega)
  have E2 := spec_l6Value_two (s.extract 1 3) (by rw [ByteArray.size_extract]; omega)
  have E3 := spec_l6Value_two (s.extract 3 5) (by rw [ByteArray.size_extract]; omega)
  have q0 : bt (s.extract 0 1) 0 = bt s 0 := bt_extract s 0 1 0 (by omega) (by omega)
  have q1 : bt (s.extract 1 3) 0 = bt s 1 := bt_extract s 1 3 0 (by omega) (by omega)
  have q2 : bt (s.extract 1 3) 1 = bt s 2 := bt_extract s 1 3 1 (by omega) (by omega)
  have q3 : bt (s.extract 3 5) 0 = bt s 3 := bt_extract s 3 5 0 (by omega) (by omega)
  have q4 : bt (s.extract 3 5) 1 = bt s 4 := bt_extract s 3 5 1 (by omega) (by omega)
  rw [q0] at E1
  rw [q1, q2] at E2
  rw [q3, q4] at E3
  refine Ev.bind E1 ?_
  refine Ev.bind E2 ?_
  refine Ev.bind E3 ?_
  have w5 : wrap64 (bt s 5) = bt s 5 := wrap_id (by omega) (by omega)
  have w6 : wrap64 (6 + bt s 5) = 6 + bt s 5 := wrap_id (by omega) (by omega)
  simp only [w5, w6]
  by_cases h16 : bt s 5 > 16
  · have hm : mn 16 (bt s 5) = 16 := by unfold mn; rw [if_neg (by omega)]
    have hx : (s.extract 6 (6 + mn 16 (bt s 5)).toNat).size = 16 := by rw [hm, ByteArray.size_extract]; omega
    have hn : ¬ (frB (bt s 0) (bt s 1 * 256 + bt s 2) (bt s 3 * 256 + bt s 4) (s.extract 6 (6 + mn 16 (bt s 5)).toNat)).toList = s.toList := by
      intro h
      have := bt_frB (bt s 0) (bt s 1 * 256 + bt s 2) (bt s 3 * 256 + bt s 4) (s.extract 6 (6 + mn 16 (bt s 5)).toNat) (by omega)
      rw [bytes_ext h, hx] at this
      omega
    simp only [if_pos h16, if_neg hn, ite_self]
    exact Ev.now _
  · have hm : mn 16 (bt s 5) = bt s 5 := by unfold mn; split <;> omega
    have p10 : (6 : Int) ≤ 6 + bt s 5 := by omega
    have p11 : 6 + bt s 5 ≤ (s.size : Int) := by omega
    simp only [if_neg h16, if_pos p10, if_pos p11, hm, spec_GoodFrame_eq, Option.bind_some]
    cases hg : goodF (bt s 0) (bt s 1 * 256 + bt s 2) (bt s 3 * 256 + bt s 4) (s.extract 6 (6 + bt s 5).toNat)
    · simp only [Bool.false_eq_true, if_false]; exact Ev.now _
    · simp only [if_true]
      refine Ev.bind (spec_l6Frame_ev _ _ _ _ (goodF_bd hg).2.2.2.2.2.2) ?_
      split <;> exact Ev.now _

theorem spec_CheckFrame_ev (s : ByteArray) (a1 a2 a3 : Int) : Ev (fun k => spec_CheckFrame.f k s a1 a2 a3) (checkV s a1 a2 a3) := by
  unfold spec_CheckFrame.f checkV
  refine Ev.bind (spec_ReadFrame_ev s) ?_
  repeat' split
  all_goals exact Ev.now _

theorem spec_ReadAll_l0 (kd pl le : Int) (l : List ByteArray) (hl : l.length ≤ 10) : ∀ (d i : Nat) (acc : List ByteArray), i + d = l.length → acc.length ≤ i →
    Ev (fun k => spec_ReadAll.l0 k kd pl le acc l (l.length : Int) (i : Int)) (raL kd pl le (l.drop i) i acc) := by
  intro d
  induction d with
  | zero =>
    intro i acc hi ha
    obtain rfl : i = l.length := by omega
    rw [List.drop_length]
    refine Ev.step (f := fun k => (spec_JoinBody.f k acc).bind fun b => if b.2 = true then some (b.1, (0 : Int), true) else some ((⟨#[]⟩ : ByteArray), (3 : Int), false)) (fun k => by rw [spec_ReadAll.l0.eq_2, if_neg (by omega)]) ?_
    refine Ev.bind (f := fun k b => if b.2 = true then some (b.1, (0 : Int), true) else some ((⟨#[]⟩ : ByteArray), (3 : Int), false)) (spec_JoinBody_ev acc) ?_
    unfold raL
    split <;> exact Ev.now _
  | succ d ih =>
    intro i acc hi ha
    have hlt : i < l.length := by omega
    rw [List.drop_eq_getElem_cons hlt]
    unfold raL
    refine Ev.step (f := fun k => (spec_CheckFrame.f k l[i] kd (wrap64 (pl + (i : Int))) le).bind fun b => if b.2.2.2.2.2 = true then (if acc.length < 8796093022208 then spec_ReadAll.l0 k kd pl le (acc ++ [b.2.2.2.1]) l (l.length : Int) ((i + 1 : Nat) : Int) else none) else some ((⟨#[]⟩ : ByteArray), b.2.2.2.2.1, false)) (fun k => by rw [spec_ReadAll.l0.eq_2, if_pos (by omega), if_pos (by omega), if_pos (by omega), rdOf_nat _ l i hlt, wrap_succ2 i (by omega)]) ?_
    refine Ev.bind (f := fun k b => if b.2.2.2.2.2 = true then (if acc.length < 8796093022208 then spec_ReadAll.l0 k kd pl le (acc ++ [b.2.2.2.1]) l (l.length : Int) ((i + 1 : Nat) : Int) else none) else some ((⟨#[]⟩ : ByteArray), b.2.2.2.2.1, false)) (spec_CheckFrame_ev l[i] kd (wrap64 (pl + (i : Int))) le) ?_
    generalize checkV l[i] kd (wrap64 (pl + (i : Int))) le = b
    by_cases hb : b.2.2.2.2.2 = true
    · simp only [if_pos hb, if_pos (show acc.length < 8796093022208 by omega)]
      exact ih (i + 1) _ (by omega) (by rw [List.length_append, List.length_singleton]; omega)
    · simp only [if_neg hb]
      exact Ev.now _
theorem spec_ReadAll_ev (l : List ByteArray) (kd pl le : Int) : Ev (fun k => spec_ReadAll.f k l kd pl le) (readAllV l kd pl le) := by
  unfold spec_ReadAll.f readAllV
  simp only [spec_l1In_eq, Option.bind_some]
  by_cases h : 1 ≤ l.length ∧ l.length ≤ 10
  · have z : (1 : Int) ≤ (l.length : Int) ∧ (l.length : Int) ≤ 10 := by omega
    rw [if_pos h]
    simp only [decide_eq_true z, if_true]
    exact spec_ReadAll_l0 kd pl le l h.2 l.length 0 [] (by omega) (Nat.zero_le _)
  · have z : ¬ ((1 : Int) ≤ (l.length : Int) ∧ (l.length : Int) ≤ 10) := by omega
    rw [if_neg h]
    simp only [decide_eq_false z]
    exact Ev.now _

theorem sameT_c (m : List ByteArray) (hl : m.length ≤ 1000000) {A B : Option Addr} {n k : Nat} (hn : m.length ≤ n) (hk : m.length ≤ k) (w : World) (h1 : Kd.C Kd.string w A m.length m) (h2 : Kd.C Kd.string w B m.length m) :
    Calls Try.prog 37 #[.slice A m.length n, .slice B m.length k] w fun e w' => e = .returned (.bool true) ∧ Below w.heap.size w w' := by
  obtain ⟨K, hK⟩ := (laws_sameTexts_same m hl).rounds
  exact (laws_sameTexts.calls K A n m B k m true w h1 hn h2 hk hK).mono fun e w' ⟨he, hd⟩ => ⟨he, hd.below⟩

/-- A fresh list of texts, with another text put to a place. -/
theorem anewT_set {w1 W : World} {gn cap : Nat} {M : List ByteArray} {ok : Nat → Prop} {b kk : Nat} {q : ByteArray} (hR : Kd.R Kd.string 9 W b ok (.slice (some ⟨gn, 0, none⟩) M.length cap) M) (hk : kk < M.length) :
    (∃ u, W.cell? ⟨gn, kk, none⟩ = some u) ∧ W.frozen? ⟨gn, kk, none⟩ = false ∧ Kd.C Kd.string (W.setCell ⟨gn, kk, none⟩ (.string q)) (some ⟨gn, 0, none⟩) M.length (M.set kk q) ∧ M.length ≤ cap := by
  have h1 := Kd.R_celln (⟨#[]⟩ : ByteArray) hR (kk : Int) (by omega) (by omega)
  have h2 := (Kd.R_reads' (Kd.R_putg hR (kk : Int) q).1).2.2
  rw [Int.toNat_natCast] at h1 h2
  rw [List.length_set] at h2
  exact ⟨⟨_, h1.1⟩, h1.2, h2, (Kd.R_reads' hR).2.1⟩
theorem split_join {s : ByteArray} {l : List ByteArray} (h : splitV s = (l, true)) : joinV l = (s, true) ∧ (catB l).size ≤ 1048576 := by
  unfold splitV at h
  split at h
  · rename_i hs
    injection h with h
    subst h
    exact ⟨join_split hs, by rw [cat_split2]; omega⟩
  · cases h
theorem frameV_few (k a e : Int) (s : ByteArray) : (frameV k a e s).1.length ≤ 1000 := by
  cases hg : frameV k a e s with
  | mk m ok =>
    cases ok with
    | true => have := (read_back hg).2.1; show m.length ≤ 1000; omega
    | false =>
      unfold frameV at hg
      split at hg
      · split at hg
        · cases hg
        · injection hg with hg; rw [← hg]; simp
      · injection hg with hg; rw [← hg]; simp

set_option maxHeartbeats 8000000 in
set_option maxRecDepth 100000 in
theorem laws_FnBodies_calls (A0 : Option Addr) (c0 : Nat) (l0 : List Int) (A1 : Option Addr) (c1 : Nat) (l1 : List Int) (w : World) (hr0 : (Kd.int .u8).C w A0 l0.length l0) (hc0 : l0.length ≤ c0) (y0 : l0.length * 1 ≤ 140737488351232) (hw0 : ∀ x ∈ l0, (Lit.int .u8 x).wf = true)
    (hr1 : (Kd.int .u8).C w A1 l1.length l1) (hc1 : l1.length ≤ c1) (y1 : l1.length * 1 ≤ 140737488351232) (hw1 : ∀ x ∈ l1, (Lit.int .u8 x).wf = true) :
    Calls Try.prog 5 #[.slice A0 l0.length c0, .slice A1 l1.length c1] w fun e w' => e = .returned (.bool true) ∧ Below w.heap.size w w' := by
  have HB := Aside0.mk (Below.refl w.heap.size w)
  have HR0 := Aside0.mk hr0
  have HR1 := Aside0.mk hr1
  have HC0 := Aside0.mk hc0
  have HC1 := Aside0.mk hc1
  by_cases hlen : l0.length + l1.length ≤ 1048576
  rotate_left
  · clear hr0 hr1 hc0 hc1
    go_enter Try.func5, Try.ntmps5
    go_wp2
    go_ret
    exact ⟨rfl, HB.out⟩
  obtain ⟨x, y, z, v, hD1, hy, hv⟩ := spec_DrawFrameAll_ex (wf_BY hw0)
  obtain ⟨KD1, hD1⟩ := hD1.rounds
  obtain ⟨bb, hD2, hbb⟩ := spec_DrawSplitBody_ex (wf_BY hw1)
  obtain ⟨KD2, hD2⟩ := hD2.rounds
  obtain ⟨tj, hD3, htj⟩ := spec_DrawJoinBody_ex (wf_BY hw1)
  obtain ⟨KD3, hD3⟩ := hD3.rounds
  obtain ⟨rr, x4, y4, z4, hD4⟩ := spec_DrawReadAll_ex (wf_BY hw1)
  obtain ⟨KD4, hD4⟩ := hD4.rounds
  obtain ⟨n, hN, hn⟩ := laws_numberOf_ex (wf_BY hw1) (by omega)
  obtain ⟨KN, hN⟩ := hN.rounds
  have cD1 := fun w (h : (Kd.int .u8).C w A0 l0.length l0) => spec_DrawFrameAll.calls KD1 A0 c0 l0 x y z v w h HC0.out hD1
  have cD2 := fun w (h : (Kd.int .u8).C w A1 l1.length l1) => spec_DrawSplitBody.calls KD2 A1 c1 l1 bb w h HC1.out hD2
  have cD3 := fun w (h : (Kd.int .u8).C w A1 l1.length l1) => spec_DrawJoinBody.calls KD3 A1 c1 l1 tj w h HC1.out hD3
  have cD4 := fun w (h : (Kd.int .u8).C w A1 l1.length l1) => spec_DrawReadAll.calls KD4 A1 c1 l1 rr x4 y4 z4 w h HC1.out hD4
  have cN := fun w (h : (Kd.int .u8).C w A1 l1.length l1) => laws_numberOf.calls KN A1 c1 l1 (n : Int) w h HC1.out hN
  obtain ⟨K1, hE1⟩ := (impl_FrameAll_ev x y z (by omega) v).rounds
  obtain ⟨K2, hE2⟩ := (spec_FrameAll_ev x y z (by omega) v).rounds
  have hml := frameV_few x y z v
  have hrb := fun m (h : frameV x y z v = (m, true)) => (read_back h).1
  have htb := fun m j q (h : frameV x y z v = (m, true)) (hx : m[j + 1]? = some q) => turned_back h hx
  generalize frameV x y z v = g1 at hE1 hE2 hml hrb htb
  obtain ⟨m, ok⟩ := g1
  replace hml : m.length ≤ 1000 := hml
  have H1 := Aside0.mk hE1
  have H2 := Aside0.mk hE2
  have HLAW := Aside0.mk (And.intro hml (And.intro (hrb m) (htb m)))
  have HTJ := Aside0.mk htj
  have x1 : (ok != ok) = false := by simp
  clear hD1 hD2 hD3 hD4 hN hy hv hbb htj hE1 hE2 hml hrb htb hw0 hw1 hr0 hr1 hc0 hc1
  go_enter Try.func5, Try.ntmps5
  go_wp2_with fail
  refine (cD1 _ HR0.out).mono ?_
  rintro e w1 ⟨rfl, hb⟩
  replace HB := Aside0.mk hb
  replace HR1 := Aside0.mk (Kd.C_below HR1.out hb)
  clear hb HR0 cD1
  go_wp2_with fail
  refine (impl_FrameAll.calls K1 x y z v m ok _ H1.out).mono ?_
  rintro e w2 ⟨va, rfl, hva, hb⟩
  obtain ⟨A2, n2, rfl⟩ := Kd.R_slice hva
  have HM := Aside0.mk (Kd.R_reads' hva).2.2
  have HN2 := Aside0.mk (Kd.R_reads' hva).2.1
  clear hva
  replace HB := Aside0.mk (HB.out.trans (hb.mono HB.out.size))
  replace HR1 := Aside0.mk (Kd.C_below HR1.out hb)
  clear hb
  go_wp2_with fail
  refine (spec_FrameAll.calls K2 x y z v m ok _ H2.out).mono ?_
  rintro e w3 ⟨va, rfl, hva, hb⟩
  obtain ⟨A3, n3, rfl⟩ := Kd.R_slice hva
  have HE := Aside0.mk (Kd.R_reads' hva).2.2
  have HN3 := Aside0.mk (Kd.R_reads' hva).2.1
  clear hva
  replace HB := Aside0.mk (HB.out.trans (hb.mono HB.out.size))
  replace HR1 := Aside0.mk (Kd.C_below HR1.out hb)
  replace HM := Aside0.mk (Kd.C_below HM.out hb)
  clear hb
  go_wp2_with fail
  refine (sameT_c m (by have := HLAW.out.1; omega) HN2.out HN3.out _ HM.out HE.out).mono ?_
  rintro e w4 ⟨rfl, hb⟩
  replace HB := Aside0.mk (HB.out.trans (hb.mono HB.out.size))
  replace HR1 := Aside0.mk (Kd.C_below HR1.out hb)
  replace HM := Aside0.mk (Kd.C_below HM.out hb)
  replace HE := Aside0.mk (Kd.C_below HE.out hb)
  clear hb
  clear HE HN3 H1 H2 x1
  go_upto_if 81 with (fail)
  go_cut [] (fun wc => Aside0 (Below w.heap.size w wc) ∧ Aside0 ((Kd.int .u8).C wc A1 l1.length l1))
  case first =>
    as_aux_lemma =>
      clear cD2 cD3 cD4 HTJ
      cases ok with
      | false =>
        clear HLAW
        go_wp2
        go_meet
        exact ⟨HB, HR1⟩
      | true =>
        obtain ⟨K5, hR⟩ := (impl_ReadAll_ev m x y z).rounds
        rw [HLAW.out.2.1 (by trivial)] at hR
        have H5 := Aside0.mk hR
        have x3 : (v.toList != v.toList) = false := by simp
        clear hR
        go_wp2_with fail
        refine (impl_ReadAll.calls K5 A2 n2 m x y z v 0 true _ HM.out HN2.out H5.out).mono ?_
        rintro e w5 ⟨rfl, hb⟩
        clear H5
        replace HB := Aside0.mk (HB.out.trans (hb.mono HB.out.size))
        replace HR1 := Aside0.mk (Kd.C_below HR1.out hb)
        replace HM := Aside0.mk (Kd.C_below HM.out hb)
        clear hb
        by_cases hl : 1 < m.length
        rotate_left
        · have t1 : decide (1 < (m.length : Int)) = false := decide_eq_false (by omega)
          have t2 : decide (1 < m.length) = false := decide_eq_false (by omega)
          clear hl HLAW cN
          go_wp2
          go_meet
          exact ⟨HB, HR1⟩
        · have t1 : decide (1 < (m.length : Int)) = true := decide_eq_true (by omega)
          have t2 : decide (1 < m.length) = true := decide_eq_true (by omega)
          obtain ⟨d, hd⟩ : ∃ d, m.length = d + 1 := ⟨m.length - 1, by omega⟩
          have hjd : n % d < d := Nat.mod_lt _ (by omega)
          have e2 : Int.tmod (n : Int) (d : Int) = ((n % d : Nat) : Int) := rfl
          generalize n % d = j at hjd e2
          obtain ⟨i, hi⟩ : ∃ i, i = j + 1 := ⟨_, rfl⟩
          have hx : m[j + 1]? = some m[j + 1] := List.getElem?_eq_getElem (by omega)
          obtain ⟨q, hq⟩ : ∃ q, q = m[j + 1] := ⟨_, rfl⟩
          rw [← hq] at hx
          have hrd : rdOf ByteArray.empty m (i : Int) = q := by rw [hi, hq]; exact rdOf_nat _ m (j + 1) (by omega)
          obtain ⟨K6, hT⟩ := (impl_ReadAll_ev (m.set j q) x y z).rounds
          rw [HLAW.out.2.2 j q (by trivial) hx] at hT
          have hcall := fun (W : World) g cn (hC : Kd.C Kd.string W (some ⟨g, 0, none⟩) (m.set j q).length (m.set j q)) (hc : (m.set j q).length ≤ cn) => impl_ReadAll.calls K6 (some ⟨g, 0, none⟩) cn (m.set j q) x y z (⟨#[]⟩ : ByteArray) 4 false W hC hc hT
          simp only [List.length_set] at hcall
          have HCA := Aside0.mk hcall
          have HF := Aside0.mk (And.intro hd (And.intro hjd (And.intro hi (And.intro hrd HLAW.out.1))))
          have e1 : IntKind.i64.wrap ((m.length : Int) - 1) = (d : Int) := by rw [i64_w, wrap_id (by omega) (by have := HLAW.out.1; omega)]; omega
          have e3 : IntKind.i64.wrap ((j : Int) + 1) = (i : Int) := by rw [i64_w, wrap_id (by omega) (by have := HLAW.out.1; omega)]; omega
          have e4 : ((d : Int) == 0) = false := beq_eq_false_iff_ne.2 (by omega)
          have e5 : (d = 0) = False := eq_false (by omega)
          have e6 : ((d : Int) = 0) = False := eq_false (by omega)
          clear hl hd hjd hi hx hq hrd hT hcall HLAW x3
          go_wp2_with fail
          refine (cN _ HR1.out).mono ?_
          rintro e wz ⟨rfl, hd⟩
          have hb := hd.below
          clear hd cN
          replace HB := Aside0.mk (HB.out.trans (hb.mono HB.out.size))
          replace HR1 := Aside0.mk (Kd.C_below HR1.out hb)
          replace HM := Aside0.mk (Kd.C_below HM.out hb)
          clear hb
          go_upto_region 15 with (first
            | ((with_reducible refine gate_dst (N := 111) rfl ?_); refine Kd.R_lit Kd.string _ 9 ?hg (N := 111) ?hd (xs := ([] : List ByteArray)) (inner := []) (ok := fun _ => True) (okp := fun _ => True) ?hr ?hp (fun _ hk => hk) trivial (Below.refl _ _) (Nat.le_refl _) (by simp) ?_; (case hd => rfl); (case hg => rfl); (case hr => first | (go_simp; done) | (go_simp; rfl)); (case hp => exact (Reps.none _ _)); intro v111 w111 ho16 hb16 _ _; have HO := Aside0.mk ho16; have HBZ := Aside0.mk hb16; clear ho16 hb16)
            | ((with_reducible refine gate_builtin (b := .append) (xs := #[.tmp 111, .tmp 112]) rfl ?_); at_builtin; refine Kd.R_append_rows Kd.string (w0 := wz) wz.heap.size rfl (.tmp 111) (.tmp 112) 48 9 (.string ⟨#[]⟩) 16 rfl Try.underlying48 info9 rfl (by decide) (by omega) v111 [] m _ _ _ (fun _ => True) (fun _ => False) rfl rfl ?aO ?aR (fun _ _ h => h) (fun _ h => h.elim) ?aF ?aB ?aS ?aL ?_; (case aR => exact Kd.C_below HM.out HBZ.out); (case aB => exact HBZ.out); (case aF => exact (fun _ _ => trivial)); (case aO => exact HO.out); (case aS => exact HBZ.out.size); (case aL => have := HF.out; simp only [List.length_nil]; omega); intro v113 w113 ho hb _ _; rw [List.nil_append] at ho; have HB2 := Aside0.mk hb; have HO2 := Aside0.mk ho; clear ho hb))
          obtain ⟨gn, cn, rfl, hgn, _, _, _⟩ := Kd.R_form HO2.out (by have := HF.out; omega)
          obtain ⟨⟨uo, hold⟩, hfz, hC9, hcap⟩ := anewT_set (w1 := w) (q := q) HO2.out (kk := j) (by have := HF.out; omega)
          have hBS := below_set (j := j) (v := .string q) HB2.out hgn
          obtain ⟨ad, eA, hx⟩ := Kd.at_string (Kd.C_below HM.out HB2.out) (i : Int) (by omega) (by have := HF.out; omega)
          rw [HF.out.2.2.2.1, Int.toNat_natCast] at hx
          cases eA
          have HS9 := Aside0.mk (And.intro hC9 (And.intro hBS hcap))
          have p1 : (j < m.length) = True := eq_true (by have := HF.out; omega)
          have p2 : ((j : Int) < (m.length : Int)) = True := eq_true (by have := HF.out; omega)
          have p3 : (0 ≤ (j : Int)) = True := eq_true (by omega)
          have p4 : (i < m.length) = True := eq_true (by have := HF.out; omega)
          have p5 : ((i : Int) < (m.length : Int)) = True := eq_true (by have := HF.out; omega)
          have p6 : (0 ≤ (i : Int)) = True := eq_true (by omega)
          clear hC9 hBS hcap hgn HO HBZ
          go_upto_region 16 with (fail)
          clear hold hfz hx p1 p2 p3 p4 p5 p6 e1 e2 e3 e4 e5 e6 t1 t2
          generalize w113.setCell ⟨gn, j, none⟩ (.string q) = wy at HS9 ⊢
          have hb := HS9.out.2.1
          replace HB := Aside0.mk (HB.out.trans (hb.mono HB.out.size))
          replace HR1 := Aside0.mk (Kd.C_below HR1.out hb)
          replace HM := Aside0.mk (Kd.C_below HM.out hb)
          clear hb
          go_wp2_with fail
          refine (HCA.out _ gn cn HS9.out.1 HS9.out.2.2).mono ?_
          rintro e w11 ⟨rfl, hb⟩
          clear HCA HS9
          replace HB := Aside0.mk (HB.out.trans (hb.mono HB.out.size))
          replace HR1 := Aside0.mk (Kd.C_below HR1.out hb)
          replace HM := Aside0.mk (Kd.C_below HM.out hb)
          clear hb
          go_wp2
          go_meet
          exact ⟨HB, HR1⟩
  case rest =>
    as_aux_lemma =>
      clear HB HR1 HM HLAW HN2 cN
      obtain ⟨HB, HR1⟩ := hcut
      go_wp2_with fail
      refine (cD2 _ HR1.out).mono ?_
      rintro e w21 ⟨rfl, hb⟩
      clear cD2
      replace HB := Aside0.mk (HB.out.trans (hb.mono HB.out.size))
      replace HR1 := Aside0.mk (Kd.C_below HR1.out hb)
      clear hb
      obtain ⟨K1, hE1⟩ := (impl_SplitBody_ev bb).rounds
      obtain ⟨K2, hE2⟩ := (spec_SplitBody_ev bb).rounds
      have hpl : (splitV bb).1.length ≤ 1000000 := by have := splitV_length bb; omega
      have hjn := fun l (h : splitV bb = (l, true)) => split_join h
      generalize splitV bb = g1 at hE1 hE2 hpl hjn
      obtain ⟨p, is⟩ := g1
      replace hpl : p.length ≤ 1000000 := hpl
      have H1 := Aside0.mk hE1
      have H2 := Aside0.mk hE2
      have HJN := Aside0.mk (And.intro hpl (hjn p))
      have x1 : (is != is) = false := by simp
      clear hE1 hE2 hpl hjn
      go_wp2_with fail
      refine (impl_SplitBody.calls K1 bb p is _ H1.out).mono ?_
      rintro e w22 ⟨va, rfl, hva, hb⟩
      obtain ⟨A2, n2, rfl⟩ := Kd.R_slice hva
      have HM := Aside0.mk (Kd.R_reads' hva).2.2
      have HN2 := Aside0.mk (Kd.R_reads' hva).2.1
      clear hva H1
      replace HB := Aside0.mk (HB.out.trans (hb.mono HB.out.size))
      replace HR1 := Aside0.mk (Kd.C_below HR1.out hb)
      clear hb
      go_wp2_with fail
      refine (spec_SplitBody.calls K2 bb p is _ H2.out).mono ?_
      rintro e w23 ⟨va, rfl, hva, hb⟩
      obtain ⟨A3, n3, rfl⟩ := Kd.R_slice hva
      have HE := Aside0.mk (Kd.R_reads' hva).2.2
      have HN3 := Aside0.mk (Kd.R_reads' hva).2.1
      clear hva H2
      replace HB := Aside0.mk (HB.out.trans (hb.mono HB.out.size))
      replace HR1 := Aside0.mk (Kd.C_below HR1.out hb)
      replace HM := Aside0.mk (Kd.C_below HM.out hb)
      clear hb
      go_wp2_with fail
      refine (sameT_c p HJN.out.1 HN2.out HN3.out _ HM.out HE.out).mono ?_
      rintro e w24 ⟨rfl, hb⟩
      replace HB := Aside0.mk (HB.out.trans (hb.mono HB.out.size))
      replace HR1 := Aside0.mk (Kd.C_below HR1.out hb)
      replace HM := Aside0.mk (Kd.C_below HM.out hb)
      replace HE := Aside0.mk (Kd.C_below HE.out hb)
      clear hb
      clear HE HN3 x1
      go_upto_if 157 with (fail)
      go_cut [] (fun wc => Aside0 (Below w.heap.size w wc) ∧ Aside0 ((Kd.int .u8).C wc A1 l1.length l1))
      case first =>
        as_aux_lemma =>
          clear cD3 cD4 HTJ
          cases is with
          | false =>
            clear HJN
            go_wp2
            go_meet
            exact ⟨HB, HR1⟩
          | true =>
            obtain ⟨hj, hc⟩ := HJN.out.2 (by trivial)
            obtain ⟨K5, hJ⟩ := (impl_JoinBody_ev p hc).rounds
            rw [hj] at hJ
            have H5 := Aside0.mk hJ
            have x3 : (bb.toList != bb.toList) = false := by simp
            clear hj hc hJ HJN
            go_wp2_with fail
            refine (impl_JoinBody.calls K5 A2 n2 p bb true _ HM.out HN2.out H5.out).mono ?_
            rintro e w25 ⟨rfl, hb⟩
            replace HB := Aside0.mk (HB.out.trans (hb.mono HB.out.size))
            replace HR1 := Aside0.mk (Kd.C_below HR1.out hb)
            replace HM := Aside0.mk (Kd.C_below HM.out hb)
            clear hb
            go_wp2
            go_meet
            exact ⟨HB, HR1⟩
      case rest =>
        as_aux_lemma =>
          clear HB HR1 HM HN2 HJN
          obtain ⟨HB, HR1⟩ := hcut
          go_wp2_with fail
          refine (cD3 _ HR1.out).mono ?_
          rintro e w31 ⟨va, rfl, hva, hb⟩
          obtain ⟨A2, n2, rfl⟩ := Kd.R_slice hva
          have HM := Aside0.mk (Kd.R_reads' hva).2.2
          have HN2 := Aside0.mk (Kd.R_reads' hva).2.1
          clear hva cD3
          replace HB := Aside0.mk (HB.out.trans (hb.mono HB.out.size))
          replace HR1 := Aside0.mk (Kd.C_below HR1.out hb)
          clear hb
          obtain ⟨K1, hE1⟩ := (impl_JoinBody_ev tj HTJ.out).rounds
          obtain ⟨K2, hE2⟩ := (spec_JoinBody_ev tj).rounds
          generalize joinV tj = g1 at hE1 hE2
          obtain ⟨jj, o1⟩ := g1
          have H1 := Aside0.mk hE1
          have H2 := Aside0.mk hE2
          clear hE1 hE2 HTJ
          go_wp2_with fail
          refine (impl_JoinBody.calls K1 A2 n2 tj jj o1 _ HM.out HN2.out H1.out).mono ?_
          rintro e w32 ⟨rfl, hb⟩
          clear H1
          replace HB := Aside0.mk (HB.out.trans (hb.mono HB.out.size))
          replace HR1 := Aside0.mk (Kd.C_below HR1.out hb)
          replace HM := Aside0.mk (Kd.C_below HM.out hb)
          clear hb
          go_wp2_with fail
          refine (spec_JoinBody.calls K2 A2 n2 tj jj o1 _ HM.out HN2.out H2.out).mono ?_
          rintro e w33 ⟨rfl, hd⟩
          have hb := hd.below
          clear H2 hd
          replace HB := Aside0.mk (HB.out.trans (hb.mono HB.out.size))
          replace HR1 := Aside0.mk (Kd.C_below HR1.out hb)
          replace HM := Aside0.mk (Kd.C_below HM.out hb)
          clear hb
          clear HM HN2
          go_wp2_with fail
          refine (cD4 _ HR1.out).mono ?_
          rintro e w34 ⟨va, rfl, hva, hb⟩
          obtain ⟨A3, n3, rfl⟩ := Kd.R_slice hva
          have HE := Aside0.mk (Kd.R_reads' hva).2.2
          have HN3 := Aside0.mk (Kd.R_reads' hva).2.1
          clear hva cD4
          replace HB := Aside0.mk (HB.out.trans (hb.mono HB.out.size))
          replace HR1 := Aside0.mk (Kd.C_below HR1.out hb)
          clear hb
          obtain ⟨K3, hE3⟩ := (impl_ReadAll_ev rr x4 y4 z4).rounds
          obtain ⟨K4, hE4⟩ := (spec_ReadAll_ev rr x4 y4 z4).rounds
          generalize readAllV rr x4 y4 z4 = g2 at hE3 hE4
          obtain ⟨tt, cc, o2⟩ := g2
          have H3 := Aside0.mk hE3
          have H4 := Aside0.mk hE4
          clear hE3 hE4
          go_wp2_with fail
          refine (impl_ReadAll.calls K3 A3 n3 rr x4 y4 z4 tt cc o2 _ HE.out HN3.out H3.out).mono ?_
          rintro e w35 ⟨rfl, hb⟩
          clear H3
          replace HB := Aside0.mk (HB.out.trans (hb.mono HB.out.size))
          replace HR1 := Aside0.mk (Kd.C_below HR1.out hb)
          replace HE := Aside0.mk (Kd.C_below HE.out hb)
          clear hb
          go_wp2_with fail
          refine (spec_ReadAll.calls K4 A3 n3 rr x4 y4 z4 tt cc o2 _ HE.out HN3.out H4.out).mono ?_
          rintro e w36 ⟨rfl, hb⟩
          clear H4
          replace HB := Aside0.mk (HB.out.trans (hb.mono HB.out.size))
          replace HR1 := Aside0.mk (Kd.C_below HR1.out hb)
          replace HE := Aside0.mk (Kd.C_below HE.out hb)
          clear hb
          clear HE HN3 HR1
          have u1 : (o1 == o1) = true := by simp
          have u2 : (jj.toList == jj.toList) = true := by simp
          have u3 : (o2 == o2) = true := by simp
          have u4 : (cc == cc) = true := by simp
          have u5 : (tt.toList == tt.toList) = true := by simp
          go_wp2
          go_ret
          exact ⟨rfl, HB.out⟩

end Go.Proofs.Ytldlldfoaicjcaa.Pure
