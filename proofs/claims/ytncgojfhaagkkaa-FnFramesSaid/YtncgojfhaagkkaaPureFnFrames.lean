/- Drawn frames are written, read and checked as the reference does it, and no burst in one goes unseen: the walk of the law. No conditions beyond the row's own. -/
import Derived.Test.YtncgojfhaagkkaaMFnFramesx9
import Derived.Test.YtncgojfhaagkkaaMFnFramesx0
import Derived.Test.YtncgojfhaagkkaaMFnFramesx1
import Derived.Test.YtncgojfhaagkkaaMFnFramesx2
import Derived.Test.YtncgojfhaagkkaaMFnFramesx3
import Derived.Test.YtncgojfhaagkkaaMFnFramesx4
import Derived.Test.YtncgojfhaagkkaaMFnFramesx5
import Derived.Test.YtncgojfhaagkkaaMFnFramesx6
import Derived.Test.YtncgojfhaagkkaaMFnFramesx7
import Derived.Test.YtncgojfhaagkkaaMFnFramesx8
import Derived.Test.YtncgojfhaagkkaaBit
import Derived.Test.YtncgojfhaagkkaaCrc
import Derived.Test.YtncgojfhaagkkaaBurst
set_option linter.unusedVariables false
set_option linter.unusedSimpArgs false
namespace Go.Proofs.Ytncgojfhaagkkaa.Pure
open Go.RowKit Go.Proofs.Ytncgojfhaagkkaa Go.Proofs.Ytncgojfhaagkkaa.MFnFrames Go.Proofs.YtncgojfhaagkkaaW.PrintWords Go.Proofs.YtncgojfhaagkkaaW.PrintLast Go.Proofs.Ytncgojfhaagkkaa.Bit

theorem impl_within_eq (a b c : Int) : impl_within.f a b c = some (decide (b ≤ a ∧ a ≤ c)) := by
  unfold impl_within.f
  by_cases h : a ≥ b
  · rw [if_pos h]; congr 1; simp [show b ≤ a from h]
  · rw [if_neg h]; congr 1; simp; omega

theorem rd_nat (l : List Int) (i : Nat) (h : i < l.length) : rd l (i : Int) = l[i] := by
  unfold rd
  simp [List.getD_eq_getElem?_getD, List.getElem?_eq_getElem h]
theorem wrap_succ (i : Nat) (h : i < 9223372036854775807) : wrap64 ((i : Int) + 1) = ((i + 1 : Nat) : Int) := by rw [wrap_id (by omega) (by omega)]; omega

/-- Is a number an element? -/
def isB (a : Int) : Bool := decide (0 ≤ a ∧ a ≤ 255)
theorem isB_nat {a : Int} (h : isB a = true) : ∃ n : Nat, a = (n : Int) ∧ n < 256 := by
  simp only [isB, decide_eq_true_eq] at h
  exact ⟨a.toNat, by omega, by omega⟩
theorem isB_cast {n : Nat} (h : n < 256) : isB (n : Int) = true := by simp only [isB, decide_eq_true_eq]; omega

theorem and_255 (x : Int) : 0 ≤ Go.bits .and .u64 x 255 ∧ Go.bits .and .u64 x 255 ≤ 255 := by
  have h : Go.bits .and .u64 x 255 = IntKind.u64.wrap ((BitVec.ofInt 64 x &&& BitVec.ofInt 64 255).toNat : Int) := rfl
  rw [h, BitVec.toNat_and]
  have h2 : (BitVec.ofInt 64 255).toNat = 255 := by decide
  rw [h2]
  have h3 : (BitVec.ofInt 64 x).toNat &&& 255 ≤ 255 := Nat.and_le_right
  rw [IntKind.wrap_u64]
  omega
theorem wrap_in {n : Int} (h0 : -1000000000000000 ≤ n) (h1 : n ≤ 1000000000000000) : wrap64 n = n := wrap_id (by omega) (by omega)
theorem tmod_in (x n : Int) (hx : 0 ≤ x) (hn : 0 < n) : 0 ≤ Int.tmod x n ∧ Int.tmod x n < n ∧ Int.tmod x n ≤ x := by
  obtain ⟨a, rfl⟩ := nat_of hx
  obtain ⟨b, rfl⟩ := nat_of (a := n) (by omega)
  have e : Int.tmod (a : Int) (b : Int) = ((a % b : Nat) : Int) := rfl
  rw [e]
  have := Nat.mod_lt a (show b > 0 by omega)
  have := Nat.mod_le a b
  omega
/-- The bytes that are drawn from. -/
def BY (s : List Int) : Prop := ∀ x ∈ s, 0 ≤ x ∧ x ≤ 255
theorem wf_BY {s : List Int} (h : ∀ x ∈ s, (Lit.int .u8 x).wf = true) : BY s := fun x hx => by
  have := h x hx
  simp only [Lit.wf, IntKind.min, IntKind.max, IntKind.signed, IntKind.bits, Bool.and_eq_true, decide_eq_true_eq] at this
  simp at this
  omega
theorem BY.rd {s : List Int} (h : BY s) (i : Int) : 0 ≤ rd s i ∧ rd s i ≤ 255 := by
  unfold Go.Proofs.YtncgojfhaagkkaaW.PrintWords.rd
  rw [List.getD_eq_getElem?_getD]
  cases e : s[i.toNat]? with
  | none => exact ⟨Int.le_refl _, (by decide : (0 : Int) ≤ 255)⟩
  | some v => exact h v (List.mem_of_getElem? e)

theorem laws_numberOf_ex {s : List Int} (hs : BY s) (hl : s.length ≤ 1048576) : ∃ n : Nat, Ev (fun k => laws_numberOf.f k s) (n : Int) ∧ n < 1000003 := by
  have h : ∀ d i m : Nat, i + d = s.length → m < 1000003 → ∃ n : Nat, Ev (fun k => laws_numberOf.l0 k (m : Int) s (s.length : Int) (i : Int)) (n : Int) ∧ n < 1000003 := by
    intro d
    induction d with
    | zero =>
      intro i m hi hm
      exact ⟨m, Ev.step (f := fun _ => some (m : Int)) (fun k => by simp only [laws_numberOf.l0]; rw [if_neg (by omega)]) (Ev.now _), hm⟩
    | succ d ih =>
      intro i m hi hm
      have hr := hs.rd (i : Int)
      have e1 : wrap64 (wrap64 (31 * (m : Int)) + wrap64 (rd s (i : Int))) = 31 * (m : Int) + rd s (i : Int) := by
        rw [wrap_in (n := 31 * (m : Int)) (by omega) (by omega), wrap_in (n := rd s (i : Int)) (by omega) (by omega), wrap_in (by omega) (by omega)]
      have ht := tmod_in (31 * (m : Int) + rd s (i : Int)) 1000003 (by omega) (by omega)
      obtain ⟨q, hq⟩ := nat_of ht.1
      obtain ⟨n, h1, h2⟩ := ih (i + 1) q (by omega) (by omega)
      refine ⟨n, Ev.step (f := fun k => laws_numberOf.l0 k (q : Int) s (s.length : Int) ((i + 1 : Nat) : Int)) (fun k => ?_) h1, h2⟩
      have ew : wrap64 ((i : Int) + 1) = ((i + 1 : Nat) : Int) := by rw [wrap_in (by omega) (by omega)]; omega
      simp only [laws_numberOf.l0, e1, hq, ew]
      rw [if_pos (by omega), if_pos (by omega), if_pos (by omega)]
  exact h s.length 0 0 (by omega) (by omega)

theorem spec_l1Cur_next_ex {s : List Int} (hs : BY s) {a : Int} (d : Int) (ha : 0 ≤ a) (hb : a ≤ 1000000000000) : ∃ v a' d', spec_l1Cur_next.f s a d = some (v, a', d') ∧ 0 ≤ v ∧ v ≤ 255 ∧ 0 ≤ a' ∧ a' ≤ a + 1 := by
  have ew : wrap64 (a + 1) = a + 1 := wrap_in (by omega) (by omega)
  unfold spec_l1Cur_next.f
  rw [ew]
  have hr := hs.rd a
  by_cases h1 : a < (s.length : Int)
  · rw [if_pos h1, if_pos ha]
    by_cases h2 : a + 1 ≤ (s.length : Int)
    · rw [if_pos h2]
      exact ⟨_, _, _, rfl, by rw [wrap_in (by omega) (by omega)]; omega, by rw [wrap_in (by omega) (by omega)]; omega, by omega, by omega⟩
    · omega
  · rw [if_neg h1]
    by_cases h2 : a + 1 ≤ (s.length : Int)
    · omega
    · rw [if_neg h2]
      generalize IntKind.u64.wrap ((IntKind.u64.wrap ((IntKind.u64.wrap (d * 6364136223846793005)))) + 1442695040888963407) = z
      have hz := and_255 (z / 1099511627776)
      exact ⟨_, _, _, rfl, by rw [wrap_in (by omega) (by omega)]; omega, by rw [wrap_in (by omega) (by omega)]; omega, by omega, by omega⟩

theorem spec_l1Cur_pick_ex {s : List Int} (hs : BY s) {a : Int} (d : Int) (n : Int) (ha : 0 ≤ a) (hb : a ≤ 900000000000) : ∃ v a' d', spec_l1Cur_pick.f s a d n = some (v, a', d') ∧ 0 ≤ v ∧ (v < n ∨ v = 0) ∧ v ≤ 65535 ∧ 0 ≤ a' ∧ a' ≤ a + 2 := by
  unfold spec_l1Cur_pick.f
  by_cases h1 : n ≤ 1
  · rw [if_pos h1]; exact ⟨_, _, _, rfl, by omega, by omega, by omega, by omega, by omega⟩
  · rw [if_neg h1]
    obtain ⟨v, a1, d1, e1, h2, h3, h4, h5⟩ := spec_l1Cur_next_ex hs d ha (by omega)
    rw [e1, Option.bind_some]
    by_cases h6 : n > 200
    · obtain ⟨v2, a2, d2, e2, h7, h8, h9, h10⟩ := spec_l1Cur_next_ex hs d1 h4 (by omega)
      have ew : wrap64 (wrap64 (v * 256) + v2) = v * 256 + v2 := by rw [wrap_in (n := v * 256) (by omega) (by omega), wrap_in (by omega) (by omega)]
      have ht := tmod_in (v * 256 + v2) n (by omega) (by omega)
      simp only [if_pos h6, e2, Option.bind_some, ew, if_neg (show ¬ n = 0 by omega)]
      exact ⟨_, _, _, rfl, by omega, by omega, by omega, by omega, by omega⟩
    · have ht := tmod_in v n (by omega) (by omega)
      simp only [if_neg h6, if_neg (show ¬ n = 0 by omega)]
      exact ⟨_, _, _, rfl, by omega, by omega, by omega, by omega, by omega⟩

theorem spec_l1Cur_among_ex {s : List Int} (hs : BY s) {a : Int} (d : Int) (l : List Int) (ha : 0 ≤ a) (hb : a ≤ 900000000000) (hl : 0 < l.length) : ∃ v a' d', spec_l1Cur_among.f s a d l = some (v, a', d') ∧ v ∈ l ∧ 0 ≤ a' ∧ a' ≤ a + 2 := by
  obtain ⟨v, a1, d1, e1, h2, h3, h4, h5, h6⟩ := spec_l1Cur_pick_ex hs d (l.length : Int) ha hb
  have hv : v < (l.length : Int) := by omega
  obtain ⟨i, rfl⟩ := nat_of h2
  have hi : i < l.length := by omega
  unfold spec_l1Cur_among.f
  rw [e1, Option.bind_some, if_pos h2, if_pos hv]
  exact ⟨_, _, _, rfl, by rw [rd_nat l i hi]; exact List.getElem_mem hi, h5, h6⟩

theorem rdOf_nat {α : Type} (d : α) (l : List α) (i : Nat) (h : i < l.length) : rdOf d l (i : Int) = l[i] := by
  unfold rdOf
  simp [List.getD_eq_getElem?_getD, List.getElem?_eq_getElem h]
theorem wrap_succ2 (i : Nat) (h : i < 9223372036854775807) : wrap64 ((i : Int) + 1) = ((i + 1 : Nat) : Int) := by rw [wrap_id (by omega) (by omega)]; omega

theorem spec_l1Cur_of_ex {s : List Int} (hs : BY s) {a : Int} (d : Int) (l : List ByteArray) (ha : 0 ≤ a) (hb : a ≤ 900000000000) (hl : 0 < l.length) : ∃ v a' d', spec_l1Cur_of.f s a d l = some (v, a', d') ∧ v ∈ l ∧ 0 ≤ a' ∧ a' ≤ a + 2 := by
  obtain ⟨v, a1, d1, e1, h2, h3, h4, h5, h6⟩ := spec_l1Cur_pick_ex hs d (l.length : Int) ha hb
  have hv : v < (l.length : Int) := by omega
  obtain ⟨i, rfl⟩ := nat_of h2
  have hi : i < l.length := by omega
  unfold spec_l1Cur_of.f
  rw [e1, Option.bind_some, if_pos h2, if_pos hv]
  exact ⟨_, _, _, rfl, by rw [rdOf_nat _ l i hi]; exact List.getElem_mem hi, h5, h6⟩

theorem spec_l1Cur_frame_ex {s : List Int} (hs : BY s) {a : Int} (d : Int) (ha : 0 ≤ a) (hb : a ≤ 800000000000) : ∃ x y z b a' d', spec_l1Cur_frame.f s a d = some (x, y, z, b, a', d') ∧ (-1 ≤ x ∧ x ≤ 70000 ∧ -1 ≤ y ∧ y ≤ 70000 ∧ 0 ≤ z ∧ z ≤ 70000 ∧ b.size ≤ 100) ∧ 0 ≤ a' ∧ a' ≤ a + 12 := by
  obtain ⟨v1, a1, d1, e1, h1, h2, h3, h4, h5⟩ := spec_l1Cur_pick_ex hs d 3 ha (by omega)
  obtain ⟨v2, a2, d2, e2, g1, g2, g3, g4, g5⟩ := spec_l1Cur_pick_ex hs d1 9 h4 (by omega)
  obtain ⟨v3, a3, d3, e3, i1, i2, i3, i4, i5⟩ := spec_l1Cur_pick_ex hs d2 5 g4 (by omega)
  obtain ⟨b4, a4, d4, e4, j1, j4, j5⟩ := spec_l1Cur_of_ex hs d3 ([(⟨#[]⟩ : ByteArray), (⟨#[97]⟩ : ByteArray), (⟨#[98, 111, 100, 121]⟩ : ByteArray), (⟨#[115, 105, 120, 116, 101, 101, 110, 32, 98, 121, 116, 101, 115, 32, 46, 46]⟩ : ByteArray), (⟨#[0, 0]⟩ : ByteArray)] : List ByteArray) i4 (by omega) (by decide)
  have hb4 : b4.size ≤ 100 := by
    simp only [List.mem_cons, List.not_mem_nil, or_false] at j1
    rcases j1 with rfl | rfl | rfl | rfl | rfl <;> decide
  obtain ⟨v5, a5, d5, e5, k1, k2, k3, k4, k5⟩ := spec_l1Cur_pick_ex hs d4 30 j4 (by omega)
  have ew : wrap64 (1 + v1) = 1 + v1 := wrap_in (by omega) (by omega)
  have x0 : (⟨#[115, 101, 118, 101, 110, 116, 101, 101, 110, 32, 98, 121, 116, 101, 115, 32, 46, 46]⟩ : ByteArray).size ≤ 100 := by decide
  unfold spec_l1Cur_frame.f
  simp only [e1, e2, e3, e4, e5, Option.bind_some, ew]
  by_cases q0 : v5 = 0
  · obtain ⟨x6, a6, d6, e6, l1, l4, l5⟩ := spec_l1Cur_among_ex hs d5 ([0, 255, 256] : List Int) k4 (by omega) (by decide)
    simp only [List.mem_cons, List.not_mem_nil, or_false] at l1
    simp only [if_pos q0, e6, Option.bind_some]
    exact ⟨_, _, _, _, _, _, rfl, ⟨by omega, by omega, by omega, by omega, by omega, by omega, hb4⟩, by omega, by omega⟩
  simp only [if_neg q0]
  by_cases q1 : v5 = 1
  · obtain ⟨x6, a6, d6, e6, l1, l4, l5⟩ := spec_l1Cur_among_ex hs d5 ([(-1), 60000, 60001] : List Int) k4 (by omega) (by decide)
    simp only [List.mem_cons, List.not_mem_nil, or_false] at l1
    simp only [if_pos q1, e6, Option.bind_some]
    exact ⟨_, _, _, _, _, _, rfl, ⟨by omega, by omega, by omega, by omega, by omega, by omega, hb4⟩, by omega, by omega⟩
  simp only [if_neg q1]
  by_cases q2 : v5 = 2
  · simp only [if_pos q2]
    exact ⟨_, _, _, _, _, _, rfl, ⟨by omega, by omega, by omega, by omega, by omega, by omega, x0⟩, by omega, by omega⟩
  simp only [if_neg q2]
  exact ⟨_, _, _, _, _, _, rfl, ⟨by omega, by omega, by omega, by omega, by omega, by omega, hb4⟩, by omega, by omega⟩

theorem spec_DrawGoodFrame_ex {s : List Int} (hs : BY s) : ∃ x y z b, spec_DrawGoodFrame.f s = some (x, y, z, b) ∧ -1 ≤ x ∧ x ≤ 70000 ∧ -1 ≤ y ∧ y ≤ 70000 ∧ 0 ≤ z ∧ z ≤ 70000 ∧ b.size ≤ 100 := by
  obtain ⟨x, y, z, b, a1, d1, e1, h1, _, _⟩ := spec_l1Cur_frame_ex hs (a := 0) 0 (by omega) (by omega)
  unfold spec_DrawGoodFrame.f
  rw [e1]
  exact ⟨x, y, z, b, rfl, h1⟩

theorem spec_DrawFrameBytes_ex {s : List Int} (hs : BY s) : ∃ x y z b, spec_DrawFrameBytes.f s = some (x, y, z, b) ∧ -1 ≤ x ∧ x ≤ 70000 ∧ -1 ≤ y ∧ y ≤ 70000 ∧ 0 ≤ z ∧ z ≤ 70000 ∧ b.size ≤ 100 := by
  obtain ⟨x, y, z, b, e1, h1⟩ := spec_DrawGoodFrame_ex hs
  unfold spec_DrawFrameBytes.f
  rw [e1]
  exact ⟨x, y, z, b, rfl, h1⟩

/-- The pieces of a text: so many at the most. -/
def splitL : Nat → ByteArray → List ByteArray
  | 0, s => [s]
  | f + 1, s => if 16 < s.size then s.extract 0 16 :: splitL f (s.extract 16 s.size) else [s]
theorem splitL_length : ∀ f s, (splitL f s).length ≤ f + 1
  | 0, _ => by simp [splitL]
  | f + 1, s => by
    unfold splitL
    have := splitL_length f (s.extract 16 s.size)
    split <;> simp <;> omega
/-- What SplitBody answers. -/
def splitV (s : ByteArray) : List ByteArray × Bool := if 1 ≤ s.size ∧ s.size ≤ 160 then (splitL 10 s, true) else ([], false)
theorem splitV_length (s : ByteArray) : (splitV s).1.length ≤ 11 := by
  unfold splitV
  split
  · exact splitL_length 10 s
  · simp

/-- Is a number of 32 bits? -/
def isS (a : Int) : Bool := decide (0 ≤ a ∧ a ≤ 4294967295)
theorem isS_nat {a : Int} (h : isS a = true) : ∃ n : Nat, a = (n : Int) ∧ n < 2 ^ 32 := by
  simp only [isS, decide_eq_true_eq] at h
  exact ⟨a.toNat, by omega, by omega⟩
def isL (a : Int) : Bool := decide (0 ≤ a ∧ a ≤ 400)
theorem isL_nat {a : Int} (h : isL a = true) : ∃ n : Nat, a = (n : Int) ∧ n ≤ 400 := by
  simp only [isL, decide_eq_true_eq] at h
  exact ⟨a.toNat, by omega, by omega⟩

theorem son_append (xs ys : List Int) : strOfNums (xs ++ ys) = strOfNums xs ++ strOfNums ys := by
  apply ByteArray.ext
  rw [ByteArray.data_append]
  simp [strOfNums]
theorem son_bytesOf (s : ByteArray) : strOfNums (bytesOf s) = s := by
  apply ByteArray.ext
  apply Array.toList_inj.1
  show (List.map (fun n : Int => UInt8.ofNat n.toNat) (bytesOf s)) = s.data.toList
  unfold bytesOf
  rw [List.map_map]
  conv => rhs; rw [← List.map_id s.data.toList]
  refine List.map_congr_left fun b _ => ?_
  show UInt8.ofNat ((b.toNat : Int).toNat) = b
  rw [Int.toNat_natCast]
  exact UInt8.ofNat_toNat
theorem son_size (xs : List Int) : (strOfNums xs).size = xs.length := by simp [strOfNums, ByteArray.size]
/-- The first 24 bytes of a frame. -/
def hdL (k a e : Int) (b : ByteArray) : List Int := [k % 256, a / 256 % 256, a % 256, e / 256 % 256, e % 256, (b.size : Int) % 256] ++ bytesOf b ++ List.replicate (18 - b.size) 0
def lowL (n : Int) : List Int := [n % 256, n / 256 % 256, n / 65536 % 256, n / 16777216 % 256]
theorem lowL_length (n : Int) : (lowL n).length = 4 := rfl
theorem hdL_length (k a e : Int) (b : ByteArray) (h : b.size ≤ 16) : (hdL k a e b).length = 24 := by
  unfold hdL
  simp only [List.length_append, List.length_cons, List.length_nil, bytesOf_length, List.length_replicate]
  omega
/-- A frame's bytes. -/
def frB (k a e : Int) (b : ByteArray) : ByteArray := strOfNums (hdL k a e b ++ lowL ((Crc.sumL 0 (Crc.bl (strOfNums (hdL k a e b))) : Nat) : Int))
theorem frB_size (k a e : Int) (b : ByteArray) (h : b.size ≤ 16) : (frB k a e b).size = 28 := by
  unfold frB
  rw [son_size, List.length_append, hdL_length k a e b h]; rfl
/-- Is a frame good? -/
def goodF (k a e : Int) (b : ByteArray) : Bool := decide (1 ≤ k ∧ k ≤ 255) && (decide (0 ≤ a ∧ a ≤ 60000) && (decide (0 ≤ e ∧ e ≤ 60000) && decide (b.size ≤ 16)))
theorem goodF_bd {k a e : Int} {b : ByteArray} (h : goodF k a e b = true) : 1 ≤ k ∧ k ≤ 255 ∧ 0 ≤ a ∧ a ≤ 60000 ∧ 0 ≤ e ∧ e ≤ 60000 ∧ b.size ≤ 16 := by
  simp only [goodF, Bool.and_eq_true, decide_eq_true_eq] at h
  obtain ⟨⟨h1, h2⟩, ⟨h3, h4⟩, ⟨h5, h6⟩, h7⟩ := h
  exact ⟨h1, h2, h3, h4, h5, h6, h7⟩
theorem size_dec (b : ByteArray) : decide ((b.size : Int) ≤ 16) = decide (b.size ≤ 16) := decide_eq_decide.2 (by omega)

theorem impl_GoodFrame_eq (k a e : Int) (b : ByteArray) : impl_GoodFrame.f k a e b = some (goodF k a e b) := by
  unfold impl_GoodFrame.f goodF
  simp only [impl_within_eq, Option.bind_some, size_dec]
  cases decide (1 ≤ k ∧ k ≤ 255) <;> cases decide (0 ≤ a ∧ a ≤ 60000) <;> cases decide (0 ≤ e ∧ e ≤ 60000) <;> rfl

theorem impl_turned_eq (x : Nat) (hx : x < 2 ^ 32) : impl_turned.f (x : Int) = some ((x ^^^ Crc.ones : Nat) : Int) := by
  have e : Go.bits .xor .i64 (x : Int) 4294967295 = ((x ^^^ Crc.ones : Nat) : Int) := xor_nat (a := x) (b := 4294967295) (by omega) (by decide)
  unfold impl_turned.f
  rw [e]

theorem impl_shifted_l0 : ∀ (n x i : Nat), x < 2 ^ 32 → n + i = 8 → Ev (fun k => impl_shifted.l0 k (x : Int) (i : Int)) ((Crc.shN n x : Nat) : Int) := by
  intro n
  induction n with
  | zero =>
    intro x i _ hi
    obtain rfl : i = 8 := by omega
    exact Ev.step (f := fun _ => some ((x : Nat) : Int)) (fun k => by simp only [impl_shifted.l0]; rw [if_neg (by omega)]) (Ev.now _)
  | succ n ih =>
    intro x i hx hi
    have e1 : wrap64 ((i : Int) + 1) = ((i + 1 : Nat) : Int) := by rw [wrap_id (by omega) (by omega)]; omega
    have e2 : Go.bits .xor .i64 ((x / 2 : Nat) : Int) 2197175160 = (((x / 2) ^^^ 2197175160 : Nat) : Int) := xor_nat (a := x / 2) (b := 2197175160) (by omega) (by decide)
    have e4 := and_one (a := x) (by omega)
    refine Ev.step (f := fun k => impl_shifted.l0 k ((Crc.sh1 x : Nat) : Int) ((i + 1 : Nat) : Int)) (fun k => ?_) (ih _ _ (Crc.sh1_lt hx) (by omega))
    simp only [impl_shifted.l0, e1, half_nat, e2, e4, Crc.sh1]
    rw [if_pos (by omega)]
    by_cases h1 : x % 2 = 1
    · rw [if_pos (show ((x % 2 : Nat) : Int) = 1 by omega), if_pos h1]
    · rw [if_neg (show ¬ ((x % 2 : Nat) : Int) = 1 by omega), if_neg h1]
theorem impl_shifted_ev (x : Nat) (hx : x < 2 ^ 32) : Ev (fun k => impl_shifted.f k (x : Int)) ((Crc.shN 8 x : Nat) : Int) := impl_shifted_l0 8 x 0 hx rfl

theorem impl_sumOn_l0 (s : ByteArray) (hs : s.size ≤ 140737488351232) : ∀ (d x i : Nat), x < 2 ^ 32 → i + d = s.size → Ev (fun k => impl_sumOn.l0 k (x : Int) s (s.size : Int) (i : Int)) ((Crc.crcL ((Crc.bl s).drop i) x ^^^ Crc.ones : Nat) : Int) := by
  intro d
  induction d with
  | zero =>
    intro x i hx hi
    obtain rfl : i = s.size := by omega
    rw [Crc.bl_end]
    exact Ev.step (f := fun _ => some ((x ^^^ Crc.ones : Nat) : Int)) (fun k => by simp only [impl_sumOn.l0]; rw [if_neg (by omega), impl_turned_eq x hx]; rfl) (Ev.now _)
  | succ d ih =>
    intro x i hx hi
    have hlt : i < s.size := by omega
    have e1 : wrap64 ((i : Int) + 1) = ((i + 1 : Nat) : Int) := by rw [wrap_id (by omega) (by omega)]; omega
    rw [Crc.bl_drop s i hlt]
    have hc : (Crc.bl s)[i]'(by rw [Crc.bl_length]; exact hlt) < 256 := Crc.bl_lt s _ (List.getElem_mem _)
    have e2 := Crc.bt_bl s i hlt
    generalize (Crc.bl s)[i]'(by rw [Crc.bl_length]; exact hlt) = c at hc e2 ⊢
    have e3 : wrap64 (bt s (i : Int)) = ((c : Nat) : Int) := by rw [e2]; exact wrap_id (by omega) (by omega)
    have e4 : Go.bits .xor .i64 (x : Int) (c : Int) = ((x ^^^ c : Nat) : Int) := xor_nat (by omega) (by omega)
    have hx' : x ^^^ c < 2 ^ 32 := Nat.xor_lt_two_pow hx (by omega)
    refine Ev.step (f := fun k => (impl_shifted.f k ((x ^^^ c : Nat) : Int)).bind fun t => impl_sumOn.l0 k t s (s.size : Int) ((i + 1 : Nat) : Int)) (fun k => ?_) ?_
    · simp only [impl_sumOn.l0, e1, e3, e4]
      rw [if_pos (by omega), if_pos (by omega), if_pos (by omega)]
    · exact Ev.bind (f := fun k t => impl_sumOn.l0 k t s (s.size : Int) ((i + 1 : Nat) : Int)) (impl_shifted_ev _ hx') (ih _ _ (Crc.shN_lt 8 hx') (by omega))
theorem impl_sumOn_ev (x : Nat) (s : ByteArray) (hs : s.size ≤ 140737488351232) (hx : x < 2 ^ 32) : Ev (fun k => impl_sumOn.f k (x : Int) s) ((Crc.sumL x (Crc.bl s) : Nat) : Int) := by
  unfold impl_sumOn.f
  simp only [impl_turned_eq x hx, Option.bind_some]
  exact impl_sumOn_l0 s hs s.size _ 0 (Nat.xor_lt_two_pow hx (by decide)) (by omega)

theorem impl_frameBytes_ev (k a e : Int) (b : ByteArray) (hb : b.size ≤ 16) : Ev (fun r => impl_frameBytes.f r k a e b) (frB k a e b) := by
  have ew : wrap64 (18 - (b.size : Int)) = ((18 - b.size : Nat) : Int) := by rw [wrap_id (by omega) (by omega)]; omega
  have z1 : (0 : Int) ≤ ((18 - b.size : Nat) : Int) := by omega
  have hl := hdL_length k a e b hb
  refine Ev.congr (f := fun r => (impl_sumOn.f r 0 (strOfNums (hdL k a e b))).bind fun t => if (hdL k a e b).length + (lowL t).length < 140737488355328 then some (strOfNums (hdL k a e b ++ lowL t)) else none) (fun r => ?_) ?_
  · unfold impl_frameBytes.f
    rw [Option.bind_some, if_pos (by simp; omega), Option.bind_some, ew, if_pos z1, if_pos (by rw [List.length_append, bytesOf_length, Int.toNat_natCast]; simp; omega), Option.bind_some, Int.toNat_natCast]
    rfl
  · refine Ev.bind (impl_sumOn_ev 0 (strOfNums (hdL k a e b)) (by rw [son_size, hl]; omega) (by decide)) ?_
    exact Ev.congr (f := fun _ => some (frB k a e b)) (fun r => if_pos (by rw [hl, lowL_length]; omega)) (Ev.now _)

/-- The frames of pieces, from place a on; nothing if one is not good. -/
def framesL (k e : Int) : Int → List ByteArray → Option (List ByteArray)
  | _, [] => some []
  | a, b :: l => if goodF k a e b then (framesL k e (a + 1) l).map (frB k a e b :: ·) else none
def frameV (k a e : Int) (s : ByteArray) : List ByteArray × Bool := if (splitV s).2 then (match framesL k e a (splitV s).1 with | some l => (l, true) | none => ([], false)) else ([], false)
theorem framesL_length (k e : Int) : ∀ (l : List ByteArray) (a : Int) (m : List ByteArray), framesL k e a l = some m → m.length = l.length
  | [], _, m, h => by cases h; rfl
  | b :: l, a, m, h => by
    unfold framesL at h
    split at h
    · obtain ⟨n, hn, rfl⟩ := Option.map_eq_some_iff.1 h
      simp [framesL_length k e l (a + 1) n hn]
    · cases h
theorem frameV_length (k a e : Int) (s : ByteArray) : (frameV k a e s).1.length ≤ 11 := by
  unfold frameV
  have h := splitV_length s
  split
  · cases hm : framesL k e a (splitV s).1 with
    | none => simp
    | some m => rw [framesL_length k e _ _ _ hm]; exact h
  · simp
theorem goodF_wrap {k a e : Int} {b : ByteArray} {i : Nat} (ha : -9223372036854775808 ≤ a ∧ a ≤ 9223372036854775807) (hi : i ≤ 100) : goodF k (wrap64 (a + (i : Int))) e b = goodF k (a + (i : Int)) e b := by
  by_cases h : a + (i : Int) ≤ 9223372036854775807
  · rw [wrap_id (by omega) h]
  · have e1 : decide (0 ≤ wrap64 (a + (i : Int)) ∧ wrap64 (a + (i : Int)) ≤ 60000) = false := by
      rw [decide_eq_false_iff_not]; unfold wrap64; omega
    have e2 : decide (0 ≤ a + (i : Int) ∧ a + (i : Int) ≤ 60000) = false := by rw [decide_eq_false_iff_not]; omega
    unfold goodF
    rw [e1, e2]

theorem impl_FrameBytes_ev (k a e : Int) (b : ByteArray) : Ev (fun r => impl_FrameBytes.f r k a e b) (if goodF k a e b then (frB k a e b, true) else (⟨#[]⟩, false)) := by
  unfold impl_FrameBytes.f
  simp only [impl_GoodFrame_eq, Option.bind_some]
  cases h : goodF k a e b
  · exact Ev.now _
  · simp only [if_true]
    exact Ev.bind (impl_frameBytes_ev k a e b (goodF_bd h).2.2.2.2.2.2) (Ev.now _)

theorem spec_l1In_eq (a b c : Int) : spec_l1In.f a b c = some (decide (b ≤ a ∧ a ≤ c)) := by
  unfold spec_l1In.f
  by_cases h : a ≥ b
  · rw [if_pos h]; congr 1; simp [show b ≤ a from h]
  · rw [if_neg h]; congr 1; simp; omega

theorem spec_GoodFrame_eq (k a e : Int) (b : ByteArray) : spec_GoodFrame.f k a e b = some (goodF k a e b) := by
  unfold spec_GoodFrame.f goodF
  simp only [spec_l1In_eq, Option.bind_some, size_dec]
  cases decide (1 ≤ k ∧ k ≤ 255) <;> cases decide (0 ≤ a ∧ a ≤ 60000) <;> cases decide (0 ≤ e ∧ e ≤ 60000) <;> rfl

theorem w_m1 : wrap64 (0 - 1) = -1 := wrap_id (by omega) (by omega)
theorem w_0 : wrap64 (1 - 1) = 0 := wrap_id (by omega) (by omega)
theorem w_1 : wrap64 (2 - 1) = 1 := wrap_id (by omega) (by omega)
theorem spec_l6Bytes_one (n : Int) : Ev (fun k => spec_l6Bytes.f k n 1) (strOfNums [n % 256]) := by
  refine Ev.congr (f := fun k => spec_l6Bytes.l0 k n [0] 0) (fun k => ?_) ?_
  · unfold spec_l6Bytes.f
    rw [if_pos (by omega), if_pos (by decide), w_0]; rfl
  refine Ev.step (f := fun k => spec_l6Bytes.l0 k (n / 256) [n % 256] (-1)) (fun k => ?_) ?_
  · rw [spec_l6Bytes.l0.eq_2, if_pos (by omega), if_pos (by omega), if_pos (by simp), w_m1]; rfl
  · exact Ev.step (f := fun _ => some (strOfNums [n % 256])) (fun k => by rw [spec_l6Bytes.l0.eq_2, if_neg (by omega)]) (Ev.now _)
theorem spec_l6Bytes_two (n : Int) : Ev (fun k => spec_l6Bytes.f k n 2) (strOfNums [n / 256 % 256, n % 256]) := by
  refine Ev.congr (f := fun k => spec_l6Bytes.l0 k n [0, 0] 1) (fun k => ?_) ?_
  · unfold spec_l6Bytes.f
    rw [if_pos (by omega), if_pos (by decide), w_1]; rfl
  refine Ev.step (f := fun k => spec_l6Bytes.l0 k (n / 256) [0, n % 256] 0) (fun k => ?_) ?_
  · rw [spec_l6Bytes.l0.eq_2, if_pos (by omega), if_pos (by omega), if_pos (by simp), w_0]; rfl
  refine Ev.step (f := fun k => spec_l6Bytes.l0 k (n / 256 / 256) [n / 256 % 256, n % 256] (-1)) (fun k => ?_) ?_
  · rw [spec_l6Bytes.l0.eq_2, if_pos (by omega), if_pos (by omega), if_pos (by simp), w_m1]; rfl
  · exact Ev.step (f := fun _ => some (strOfNums [n / 256 % 256, n % 256])) (fun k => by rw [spec_l6Bytes.l0.eq_2, if_neg (by omega)]) (Ev.now _)

theorem u8_i (i : Int) (h0 : 0 ≤ i) (h4 : i < 4) : IntKind.u64.wrap (wrap64 (8 * i)) = 8 * i := by
  rw [wrap_id (by omega) (by omega), IntKind.wrap_u64]; omega
theorem spec_l6Low_ev (n : Int) : Ev (fun k => spec_l6Low.f k n) (strOfNums (lowL n)) := by
  unfold spec_l6Low.f
  have st : ∀ (i : Int) (s : ByteArray) (d : Int), 0 ≤ i → i < 4 → s.size ≤ 100 → shr .i64 n (8 * i) = d →
      ∀ R, Ev (fun k => spec_l6Low.l0 k n (s ++ strOfNums [d % 256]) (i + 1)) R → Ev (fun k => spec_l6Low.l0 k n s i) R := by
    intro i s d h0 h4 hs hd R h
    have ew : wrap64 (i + 1) = i + 1 := wrap_id (by omega) (by omega)
    have hu : 0 ≤ 8 * i := by omega
    refine Ev.step (fun k => spec_l6Low.l0.eq_2 _ _ _ k) ?_
    simp only [u8_i i h0 h4, if_pos h4, if_pos hu, hd, ew]
    refine Ev.bind (spec_l6Bytes_one d) ?_
    exact Ev.congr (f := fun k => spec_l6Low.l0 k n (s ++ strOfNums [d % 256]) (i + 1)) (fun k => if_pos (by rw [son_size]; simp; omega)) h
  have q0 : (2 : Int) ^ min (8 * 0 : Int).toNat IntKind.i64.bits = 1 := by decide
  have q1 : (2 : Int) ^ min (8 * 1 : Int).toNat IntKind.i64.bits = 256 := by decide
  have q2 : (2 : Int) ^ min (8 * 2 : Int).toNat IntKind.i64.bits = 65536 := by decide
  have q3 : (2 : Int) ^ min (8 * 3 : Int).toNat IntKind.i64.bits = 16777216 := by decide
  have s1 : ∀ n : Int, (strOfNums [n]).size = 1 := fun n => son_size _
  have s0 : (⟨#[]⟩ : ByteArray).size = 0 := rfl
  refine st 0 ⟨#[]⟩ n (by decide) (by decide) (by decide) (by unfold shr; rw [q0]; omega) _ ?_
  refine st 1 _ (n / 256) (by decide) (by decide) (by rw [ByteArray.size_append, s1, s0]; decide) (by unfold shr; rw [q1]) _ ?_
  refine st 2 _ (n / 65536) (by decide) (by decide) (by rw [ByteArray.size_append, ByteArray.size_append, s1, s1, s0]; decide) (by unfold shr; rw [q2]) _ ?_
  refine st 3 _ (n / 16777216) (by decide) (by decide) (by rw [ByteArray.size_append, ByteArray.size_append, ByteArray.size_append, s1, s1, s1, s0]; decide) (by unfold shr; rw [q3]) _ ?_
  have e : ((((⟨#[]⟩ : ByteArray) ++ strOfNums [n % 256]) ++ strOfNums [n / 256 % 256]) ++ strOfNums [n / 65536 % 256]) ++ strOfNums [n / 16777216 % 256] = strOfNums (lowL n) := by
    rw [show (⟨#[]⟩ : ByteArray) = strOfNums [] from rfl, ← son_append, ← son_append, ← son_append, ← son_append]; rfl
  rw [e]
  exact Ev.step (f := fun _ => some (strOfNums (lowL n))) (fun k => by rw [spec_l6Low.l0.eq_2, if_neg (by omega)]) (Ev.now _)

theorem spec_l5Byte_l0 : ∀ (n x i : Nat), x < 2 ^ 32 → n + i = 8 → Ev (fun k => spec_l5Byte.l0 k (x : Int) (i : Int)) ((Crc.shN n x : Nat) : Int) := by
  intro n
  induction n with
  | zero =>
    intro x i _ hi
    obtain rfl : i = 8 := by omega
    exact Ev.step (f := fun _ => some ((x : Nat) : Int)) (fun k => by simp only [spec_l5Byte.l0]; rw [if_neg (by omega)]) (Ev.now _)
  | succ n ih =>
    intro x i hx hi
    have e1 : wrap64 ((i : Int) + 1) = ((i + 1 : Nat) : Int) := by rw [wrap_id (by omega) (by omega)]; omega
    have e2 : Go.bits .xor .i64 ((x / 2 : Nat) : Int) 2197175160 = (((x / 2) ^^^ 2197175160 : Nat) : Int) := xor_nat (a := x / 2) (b := 2197175160) (by omega) (by decide)
    have e4 := and_one (a := x) (by omega)
    refine Ev.step (f := fun k => spec_l5Byte.l0 k ((Crc.sh1 x : Nat) : Int) ((i + 1 : Nat) : Int)) (fun k => ?_) (ih _ _ (Crc.sh1_lt hx) (by omega))
    simp only [spec_l5Byte.l0, e1, half_nat, e2, e4, Crc.sh1]
    rw [if_pos (by omega)]
    by_cases h1 : x % 2 = 1
    · rw [if_pos (show ((x % 2 : Nat) : Int) = 1 by omega), if_pos h1]
    · rw [if_neg (show ¬ ((x % 2 : Nat) : Int) = 1 by omega), if_neg h1]
theorem spec_l5Byte_ev (x : Nat) (hx : x < 2 ^ 32) : Ev (fun k => spec_l5Byte.f k (x : Int)) ((Crc.shN 8 x : Nat) : Int) := spec_l5Byte_l0 8 x 0 hx rfl

theorem spec_l5On_l0 (s : ByteArray) (hs : s.size ≤ 140737488351232) : ∀ (d x i : Nat), x < 2 ^ 32 → i + d = s.size → Ev (fun k => spec_l5On.l0 k (x : Int) s (i : Int)) ((Crc.crcL ((Crc.bl s).drop i) x ^^^ Crc.ones : Nat) : Int) := by
  intro d
  induction d with
  | zero =>
    intro x i hx hi
    obtain rfl : i = s.size := by omega
    have e : Go.bits .xor .i64 (x : Int) 4294967295 = ((x ^^^ Crc.ones : Nat) : Int) := xor_nat (a := x) (b := 4294967295) (by omega) (by decide)
    rw [Crc.bl_end]
    exact Ev.step (f := fun _ => some ((x ^^^ Crc.ones : Nat) : Int)) (fun k => by simp only [spec_l5On.l0]; rw [if_neg (by omega), e]) (Ev.now _)
  | succ d ih =>
    intro x i hx hi
    have hlt : i < s.size := by omega
    have e1 : wrap64 ((i : Int) + 1) = ((i + 1 : Nat) : Int) := by rw [wrap_id (by omega) (by omega)]; omega
    rw [Crc.bl_drop s i hlt]
    have hc : (Crc.bl s)[i]'(by rw [Crc.bl_length]; exact hlt) < 256 := Crc.bl_lt s _ (List.getElem_mem _)
    have e2 := Crc.bt_bl s i hlt
    generalize (Crc.bl s)[i]'(by rw [Crc.bl_length]; exact hlt) = c at hc e2 ⊢
    have e3 : wrap64 (bt s (i : Int)) = ((c : Nat) : Int) := by rw [e2]; exact wrap_id (by omega) (by omega)
    have e4 : Go.bits .xor .i64 (x : Int) (c : Int) = ((x ^^^ c : Nat) : Int) := xor_nat (by omega) (by omega)
    have hx' : x ^^^ c < 2 ^ 32 := Nat.xor_lt_two_pow hx (by omega)
    refine Ev.step (f := fun k => (spec_l5Byte.f k ((x ^^^ c : Nat) : Int)).bind fun t => spec_l5On.l0 k t s ((i + 1 : Nat) : Int)) (fun k => ?_) ?_
    · simp only [spec_l5On.l0, e1, e3, e4]
      rw [if_pos (by omega), if_pos (by omega)]
    · exact Ev.bind (f := fun k t => spec_l5On.l0 k t s ((i + 1 : Nat) : Int)) (spec_l5Byte_ev _ hx') (ih _ _ (Crc.shN_lt 8 hx') (by omega))
theorem spec_l5On_ev (x : Nat) (s : ByteArray) (hs : s.size ≤ 140737488351232) (hx : x < 2 ^ 32) : Ev (fun k => spec_l5On.f k (x : Int) s) ((Crc.sumL x (Crc.bl s) : Nat) : Int) := by
  have e : Go.bits .xor .i64 (x : Int) 4294967295 = ((x ^^^ Crc.ones : Nat) : Int) := xor_nat (a := x) (b := 4294967295) (by omega) (by decide)
  unfold spec_l5On.f
  rw [e]
  exact spec_l5On_l0 s hs s.size _ 0 (Nat.xor_lt_two_pow hx (by decide)) (by omega)

theorem spec_l6Frame_ev (k a e : Int) (b : ByteArray) (hb : b.size ≤ 16) : Ev (fun r => spec_l6Frame.f r k a e b) (frB k a e b) := by
  have ew : wrap64 (wrap64 (16 - (b.size : Int)) + 2) = ((18 - b.size : Nat) : Int) := by rw [wrap_id (n := 16 - (b.size : Int)) (by omega) (by omega), wrap_id (by omega) (by omega)]; omega
  have z1 : (0 : Int) ≤ ((18 - b.size : Nat) : Int) := by omega
  have z2 : ((18 - b.size : Nat) : Int).toNat ≤ 281474976710656 := by rw [Int.toNat_natCast]; omega
  have one : ∀ n : Int, (strOfNums [n]).size = 1 := fun n => son_size _
  have two : ∀ m n : Int, (strOfNums [m, n]).size = 2 := fun m n => son_size _
  have zz : (strOfNums (List.replicate (18 - b.size) 0)).size = 18 - b.size := by rw [son_size, List.length_replicate]
  have eh : strOfNums [k % 256] ++ strOfNums [a / 256 % 256, a % 256] ++ strOfNums [e / 256 % 256, e % 256] ++ strOfNums [(b.size : Int) % 256] ++ b ++ strOfNums (List.replicate (18 - b.size) 0) = strOfNums (hdL k a e b) := by
    unfold hdL
    rw [son_append, son_append, son_bytesOf, ← son_append, ← son_append, ← son_append]; rfl
  unfold spec_l6Frame.f
  refine Ev.bind (spec_l6Bytes_one k) ?_
  refine Ev.bind (spec_l6Bytes_two a) ?_
  refine Ev.congr (f := fun r => (spec_l6Bytes.f r e 2).bind fun t3 => if (strOfNums [k % 256] ++ strOfNums [a / 256 % 256, a % 256]).size + t3.size ≤ 9223372036854775807 then ((spec_l6Bytes.f r (b.size : Int) 1).bind fun t4 => (if ((strOfNums [k % 256] ++ strOfNums [a / 256 % 256, a % 256]) ++ t3).size + t4.size ≤ 9223372036854775807 then (if (((strOfNums [k % 256] ++ strOfNums [a / 256 % 256, a % 256]) ++ t3) ++ t4).size + b.size ≤ 9223372036854775807 then (if 0 ≤ (wrap64 ((wrap64 (16 - (b.size : Int))) + 2)) then (if (wrap64 ((wrap64 (16 - (b.size : Int))) + 2) : Int).toNat ≤ 281474976710656 then ((some (List.replicate (wrap64 ((wrap64 (16 - (b.size : Int))) + 2) : Int).toNat 0 : List Int)).bind fun y => (if ((((strOfNums [k % 256] ++ strOfNums [a / 256 % 256, a % 256]) ++ t3) ++ t4) ++ b).size + (strOfNums y).size ≤ 9223372036854775807 then ((spec_l5On.f r 0 (((((strOfNums [k % 256] ++ strOfNums [a / 256 % 256, a % 256]) ++ t3) ++ t4) ++ b) ++ (strOfNums y))).bind fun u => ((spec_l6Low.f r u).bind fun v => (if (((((strOfNums [k % 256] ++ strOfNums [a / 256 % 256, a % 256]) ++ t3) ++ t4) ++ b) ++ (strOfNums y)).size + v.size ≤ 9223372036854775807 then (some ((((((strOfNums [k % 256] ++ strOfNums [a / 256 % 256, a % 256]) ++ t3) ++ t4) ++ b) ++ (strOfNums y)) ++ v)) else (none)))) else (none))) else (none)) else (none)) else (none)) else (none))) else none) (fun r => if_pos (by rw [one, two]; omega)) ?_
  refine Ev.bind (spec_l6Bytes_two e) ?_
  refine Ev.congr (f := fun r => (spec_l6Bytes.f r (b.size : Int) 1).bind fun t4 => (if ((strOfNums [k % 256] ++ strOfNums [a / 256 % 256, a % 256]) ++ strOfNums [e / 256 % 256, e % 256]).size + t4.size ≤ 9223372036854775807 then (if (((strOfNums [k % 256] ++ strOfNums [a / 256 % 256, a % 256]) ++ strOfNums [e / 256 % 256, e % 256]) ++ t4).size + b.size ≤ 9223372036854775807 then (if 0 ≤ (wrap64 ((wrap64 (16 - (b.size : Int))) + 2)) then (if (wrap64 ((wrap64 (16 - (b.size : Int))) + 2) : Int).toNat ≤ 281474976710656 then ((some (List.replicate (wrap64 ((wrap64 (16 - (b.size : Int))) + 2) : Int).toNat 0 : List Int)).bind fun y => (if ((((strOfNums [k % 256] ++ strOfNums [a / 256 % 256, a % 256]) ++ strOfNums [e / 256 % 256, e % 256]) ++ t4) ++ b).size + (strOfNums y).size ≤ 9223372036854775807 then ((spec_l5On.f r 0 (((((strOfNums [k % 256] ++ strOfNums [a / 256 % 256, a % 256]) ++ strOfNums [e / 256 % 256, e % 256]) ++ t4) ++ b) ++ (strOfNums y))).bind fun u => ((spec_l6Low.f r u).bind fun v => (if (((((strOfNums [k % 256] ++ strOfNums [a / 256 % 256, a % 256]) ++ strOfNums [e / 256 % 256, e % 256]) ++ t4) ++ b) ++ (strOfNums y)).size + v.size ≤ 9223372036854775807 then (some ((((((strOfNums [k % 256] ++ strOfNums [a / 256 % 256, a % 256]) ++ strOfNums [e / 256 % 256, e % 256]) ++ t4) ++ b) ++ (strOfNums y)) ++ v)) else (none)))) else (none))) else (none)) else (none)) else (none)) else (none))) (fun r => if_pos (by rw [ByteArray.size_append, one, two, two]; omega)) ?_
  refine Ev.bind (spec_l6Bytes_one (b.size : Int)) ?_
  rw [ew]
  refine Ev.congr (f := fun r => (spec_l5On.f r 0 (strOfNums (hdL k a e b))).bind fun u => ((spec_l6Low.f r u).bind fun v => (if (strOfNums (hdL k a e b)).size + v.size ≤ 9223372036854775807 then (some (strOfNums (hdL k a e b) ++ v)) else (none)))) (fun r => ?_) ?_
  · rw [if_pos (by simp only [ByteArray.size_append, one, two]; omega), if_pos (by simp only [ByteArray.size_append, one, two]; omega), if_pos z1, if_pos z2, Option.bind_some, Int.toNat_natCast, if_pos (by simp only [ByteArray.size_append, one, two, zz]; omega), eh]
  · refine Ev.bind (spec_l5On_ev 0 (strOfNums (hdL k a e b)) (by rw [son_size, hdL_length k a e b hb]; omega) (by decide)) ?_
    refine Ev.bind (spec_l6Low_ev _) ?_
    refine Ev.congr (f := fun _ => some (frB k a e b)) (fun r => ?_) (Ev.now _)
    rw [if_pos (by rw [son_size, son_size, hdL_length k a e b hb, lowL_length]; omega)]
    unfold frB
    rw [son_append]

theorem spec_FrameBytes_ev (k a e : Int) (b : ByteArray) : Ev (fun r => spec_FrameBytes.f r k a e b) (if goodF k a e b then (frB k a e b, true) else (⟨#[]⟩, false)) := by
  unfold spec_FrameBytes.f
  simp only [spec_GoodFrame_eq, Option.bind_some]
  cases h : goodF k a e b
  · exact Ev.now _
  · simp only [if_true]
    exact Ev.bind (spec_l6Frame_ev k a e b (goodF_bd h).2.2.2.2.2.2) (Ev.now _)

theorem bytes_ext {a b : ByteArray} (h : a.toList = b.toList) : a = b := by
  rw [Go.ByteArray.toList_eq, Go.ByteArray.toList_eq] at h
  cases a; cases b
  simp only [ByteArray.mk.injEq]
  exact Array.toList_inj.1 h

theorem or_add {c d : Int} (hc : 0 ≤ c ∧ c ≤ 65535) (hd : 0 ≤ d ∧ d ≤ 255) : Go.bits .or .i64 (wrap64 (c * 256)) (wrap64 d) = c * 256 + d := by
  obtain ⟨x, rfl⟩ := nat_of hc.1
  obtain ⟨y, rfl⟩ := nat_of hd.1
  rw [wrap_id (by omega) (by omega), wrap_id (by omega) (by omega), show ((x : Int) * 256) = ((2 ^ 8 * x : Nat) : Int) by omega, or_nat (by omega) (by omega), ← Nat.two_pow_add_eq_or_of_lt (by omega : y < 2 ^ 8)]
  omega
theorem bt_extract (s : ByteArray) (i j n : Nat) (h : i + n < j) (hj : j ≤ s.size) : bt (s.extract i j) (n : Int) = bt s ((i + n : Nat) : Int) := by
  have h1 : n < (s.extract i j).size := by rw [ByteArray.size_extract]; omega
  unfold bt
  rw [dif_pos (by rw [Int.toNat_natCast]; exact h1), dif_pos (by rw [Int.toNat_natCast]; omega)]
  simp only [Int.toNat_natCast, ByteArray.getElem_extract]
theorem bt_frB (k a e : Int) (b : ByteArray) (hb : b.size ≤ 16) : bt (frB k a e b) 5 = (b.size : Int) := by
  rw [← rd_bytesOf]
  unfold frB hdL bytesOf
  show ((UInt8.ofNat ((b.size : Int) % 256).toNat).toNat : Int) = _
  rw [UInt8.toNat_ofNat']
  omega
/-- What a frame's bytes say. -/
def readV (s : ByteArray) : Int × Int × Int × ByteArray × Int × Bool :=
  if (s.size : Int) = 28 then
    (if (strOfNums (lowL ((Crc.sumL 0 (Crc.bl (s.extract 0 24)) : Nat) : Int))).toList = (s.extract 24 s.size).toList then
      (if goodF (bt s 0) (bt s 1 * 256 + bt s 2) (bt s 3 * 256 + bt s 4) (s.extract 6 (6 + mn 16 (bt s 5)).toNat) = true then
        (if (frB (bt s 0) (bt s 1 * 256 + bt s 2) (bt s 3 * 256 + bt s 4) (s.extract 6 (6 + mn 16 (bt s 5)).toNat)).toList = s.toList then
          (bt s 0, bt s 1 * 256 + bt s 2, bt s 3 * 256 + bt s 4, s.extract 6 (6 + mn 16 (bt s 5)).toNat, 0, true)
        else (0, 0, 0, (⟨#[]⟩ : ByteArray), 3, false))
      else (0, 0, 0, (⟨#[]⟩ : ByteArray), 3, false))
    else (0, 0, 0, (⟨#[]⟩ : ByteArray), 2, false))
  else (0, 0, 0, (⟨#[]⟩ : ByteArray), 1, false)

theorem impl_ReadFrame_ev (s : ByteArray) : Ev (fun k => impl_ReadFrame.f k s) (readV s) := by
  unfold impl_ReadFrame.f readV
  by_cases hs : (s.size : Int) = 28
  rotate_left
  · simp only [if_neg hs]; exact Ev.now _
  have hz : s.size = 28 := by omega
  have r0 := bt_range s 0
  have r1 := bt_range s 1
  have r2 := bt_range s 2
  have r3 := bt_range s 3
  have r4 := bt_range s 4
  have r5 := bt_range s 5
  have x24 : (s.extract 0 24).size = 24 := by rw [ByteArray.size_extract]; omega
  have p1 : (0 : Int) ≤ 24 := by omega
  have p2 : (24 : Int) ≤ (s.size : Int) := by omega
  have p3 : (0 : Int) < (s.size : Int) := by omega
  have p4 : (1 : Int) < (s.size : Int) := by omega
  have p5 : (2 : Int) < (s.size : Int) := by omega
  have p6 : (3 : Int) < (s.size : Int) := by omega
  have p7 : (4 : Int) < (s.size : Int) := by omega
  have p8 : (5 : Int) < (s.size : Int) := by omega
  simp only [if_pos hs, if_pos p1, if_pos p2]
  refine Ev.bind (impl_sumOn_ev 0 (s.extract 0 24) (by omega) (by decide)) ?_
  show Ev (fun k => if (s.extract 24 s.size).toList = (strOfNums (lowL ((Crc.sumL 0 (Crc.bl (s.extract 0 24)) : Nat) : Int))).toList then _ else _) _
  by_cases hl : (strOfNums (lowL ((Crc.sumL 0 (Crc.bl (s.extract 0 24)) : Nat) : Int))).toList = (s.extract 24 s.size).toList
  rotate_left
  · simp only [if_neg hl, if_neg (fun h => hl (Eq.symm h))]; exact Ev.now _
  have hm : 0 ≤ mn 16 (bt s 5) ∧ mn 16 (bt s 5) ≤ 16 := by unfold mn; split <;> omega
  have w5 : wrap64 (bt s 5) = bt s 5 := wrap_id (by omega) (by omega)
  have w0 : wrap64 (bt s 0) = bt s 0 := wrap_id (by omega) (by omega)
  have w1 : wrap64 (bt s 1) = bt s 1 := wrap_id (by omega) (by omega)
  have w3 : wrap64 (bt s 3) = bt s 3 := wrap_id (by omega) (by omega)
  have w6 : wrap64 (6 + mn 16 (bt s 5)) = 6 + mn 16 (bt s 5) := wrap_id (by omega) (by omega)
  have o1 : Go.bits .or .i64 (wrap64 (bt s 1 * 256)) (wrap64 (bt s 2)) = bt s 1 * 256 + bt s 2 := or_add (by omega) r2
  have o3 : Go.bits .or .i64 (wrap64 (bt s 3 * 256)) (wrap64 (bt s 4)) = bt s 3 * 256 + bt s 4 := or_add (by omega) r4
  have p10 : (6 : Int) ≤ 6 + mn 16 (bt s 5) := by omega
  have p11 : 6 + mn 16 (bt s 5) ≤ (s.size : Int) := by omega
  simp only [if_pos hl, if_pos hl.symm, if_pos p3, if_pos p4, if_pos p5, if_pos p6, if_pos p7, if_pos p8, w5, w0, w1, w3, w6, o1, o3, if_pos p10, if_pos p11, impl_GoodFrame_eq, Option.bind_some]
  cases hg : goodF (bt s 0) (bt s 1 * 256 + bt s 2) (bt s 3 * 256 + bt s 4) (s.extract 6 (6 + mn 16 (bt s 5)).toNat)
  · simp only [Bool.false_eq_true, if_false]; exact Ev.now _
  · simp only [if_true]
    refine Ev.bind (impl_frameBytes_ev _ _ _ _ (goodF_bd hg).2.2.2.2.2.2) ?_
    split <;> exact Ev.now _

def checkV (s : ByteArray) (a1 a2 a3 : Int) : Int × Int × Int × ByteArray × Int × Bool :=
  if (readV s).2.2.2.2.2 = true then (if (readV s).1 = a1 then (if (readV s).2.1 = a2 then (if (readV s).2.2.1 < a3 then (0, 0, 0, (⟨#[]⟩ : ByteArray), 5, false) else ((readV s).1, (readV s).2.1, (readV s).2.2.1, (readV s).2.2.2.1, 0, true)) else (0, 0, 0, (⟨#[]⟩ : ByteArray), 4, false)) else (0, 0, 0, (⟨#[]⟩ : ByteArray), 3, false)) else (0, 0, 0, (⟨#[]⟩ : ByteArray), (readV s).2.2.2.2.1, false)
theorem readV_code (s : ByteArray) : ((readV s).2.2.2.2.2 = true → (readV s).2.2.2.2.1 = 0) ∧ ((readV s).2.2.2.2.2 = false → ¬ (readV s).2.2.2.2.1 = 0) := by
  unfold readV
  repeat' split
  all_goals simp

theorem impl_CheckFrame_ev (s : ByteArray) (a1 a2 a3 : Int) : Ev (fun k => impl_CheckFrame.f k s a1 a2 a3) (checkV s a1 a2 a3) := by
  unfold impl_CheckFrame.f checkV
  refine Ev.bind (impl_ReadFrame_ev s) ?_
  have h := readV_code s
  generalize readV s = g at h
  obtain ⟨k, a, e, b, c, ok⟩ := g
  cases ok
  · have hc : ¬ c = 0 := h.2 rfl
    simp only [Bool.false_eq_true, if_false, if_neg hc]
    exact Ev.now _
  · obtain rfl : c = 0 := h.1 rfl
    have n3 : ¬ (3 : Nat) = 0 := by omega
    have n4 : ¬ (4 : Nat) = 0 := by omega
    have n5 : ¬ (5 : Nat) = 0 := by omega
    simp only [if_true, if_neg n3, if_neg n4, if_neg n5]
    repeat' split
    all_goals exact Ev.now _

theorem impl_isSummed_eq (a : Int) : impl_isSummed.f a = some (isL a) := by
  unfold impl_isSummed.f; rw [impl_within_eq]; rfl

theorem impl_isSum_eq (a : Int) : impl_isSum.f a = some (isS a) := by
  unfold impl_isSum.f; rw [impl_within_eq]; rfl

def nl (l : List Nat) : List Int := l.map fun n : Nat => (n : Int)
theorem nl_length (l : List Nat) : (nl l).length = l.length := by unfold nl; rw [List.length_map]
theorem bytesOf_nl (s : ByteArray) : bytesOf s = nl (Crc.bl s) := by
  unfold bytesOf nl Crc.bl
  rw [List.map_map]; rfl
theorem nl_rd (l : List Nat) (q : Nat) (hq : q < l.length) : rd (nl l) (q : Int) = ((l.getD q 0 : Nat) : Int) := by
  unfold rd nl
  rw [Int.toNat_natCast, List.getD_eq_getElem?_getD, List.getD_eq_getElem?_getD, List.getElem?_map, List.getElem?_eq_getElem hq]; rfl
theorem nl_set (l : List Nat) (q v : Nat) : (nl l).set q (v : Int) = nl (l.set q v) := by
  unfold nl
  rw [List.map_set]
theorem xor_byte {a b : Nat} (ha : a < 256) (hb : b < 256) : Go.bits .xor .u8 (a : Int) (b : Int) = ((a ^^^ b : Nat) : Int) := by
  have h : Go.bits .xor .u8 (a : Int) (b : Int) = IntKind.u8.wrap ((BitVec.ofInt 8 (a : Int) ^^^ BitVec.ofInt 8 (b : Int)).toNat : Int) := rfl
  have hx : a ^^^ b < 256 := Nat.xor_lt_two_pow (n := 8) ha hb
  rw [h, BitVec.toNat_xor, BitVec.ofInt_natCast, BitVec.ofInt_natCast, BitVec.toNat_ofNat, BitVec.toNat_ofNat, Nat.mod_eq_of_lt (by omega), Nat.mod_eq_of_lt (by omega)]
  have h2 : IntKind.u8.wrap ((a ^^^ b : Nat) : Int) = (((a ^^^ b : Nat) : Int)) % 256 := by simp [IntKind.wrap, IntKind.bits, IntKind.signed]
  rw [h2]; omega
theorem u64_nat (n : Nat) (h : n < 2 ^ 63) : IntKind.u64.wrap (n : Int) = (n : Int) := by
  have h' : n < 9223372036854775808 := h
  rw [IntKind.wrap_u64]; omega
theorem shl_one (m : Nat) (h : m < 8) : shl .u8 1 (m : Int) = ((2 ^ m : Nat) : Int) := by
  have : ∀ m : Fin 8, shl .u8 1 ((m.1 : Nat) : Int) = ((2 ^ m.1 : Nat) : Int) := by decide
  exact this ⟨m, h⟩
theorem shr_nat (c m : Nat) (h : m ≤ 64) : shr .i64 (c : Int) (m : Int) = ((c / 2 ^ m : Nat) : Int) := by
  unfold shr
  have hb : IntKind.i64.bits = 64 := rfl
  rw [Int.toNat_natCast, hb, Nat.min_eq_left h, Int.natCast_ediv, Int.natCast_pow]; rfl
theorem tdiv_nat (p : Nat) : Int.tdiv (p : Int) 8 = ((p / 8 : Nat) : Int) := rfl
theorem tmod_nat (p : Nat) : Int.tmod (p : Int) 8 = ((p % 8 : Nat) : Int) := rfl
theorem burst_zero : ∀ (d : Nat) (l : List Nat) (p : Nat), Burst.burst d l p 0 = l
  | 0, _, _ => rfl
  | d + 1, l, p => by
    unfold Burst.burst
    split
    · rw [if_neg (by omega)]; exact burst_zero d l (p + 1)
    · rfl
theorem bs_bl (s : ByteArray) : Burst.Bs (Crc.bl s) := Crc.bl_lt s
/-- A text with a burst. -/
def burstV (s : ByteArray) (a b : Int) : ByteArray × Bool :=
  if (s.size ≤ 400 ∧ 0 ≤ a ∧ a < 8 * (s.size : Int)) ∧ isS b = true then (strOfNums (nl (Burst.burst 32 (Crc.bl s) a.toNat b.toNat)), true) else (⟨#[]⟩, false)

theorem impl_BurstAt_l0 : ∀ (d : Nat) (l : List Nat) (p c : Nat), Burst.Bs l → l.length ≤ 400 → p + d < 5000 → c < 2 ^ d → d ≤ 32 →
    Ev (fun k => impl_BurstAt.l0 k (p : Int) (c : Int) (nl l)) (strOfNums (nl (Burst.burst d l p c)), true) := by
  intro d
  have fin : ∀ (l : List Nat) (p : Nat), Ev (fun k => impl_BurstAt.l0 k (p : Int) ((0 : Nat) : Int) (nl l)) (strOfNums (nl l), true) := fun l p =>
    Ev.step (f := fun _ => some (strOfNums (nl l), true)) (fun k => by rw [impl_BurstAt.l0.eq_2, if_neg (by omega)]) (Ev.now _)
  induction d with
  | zero =>
    intro l p c _ _ _ hc _
    obtain rfl : c = 0 := by omega
    exact fin l p
  | succ d ih =>
    intro l p c hb hl hp hc hd
    by_cases h0 : c = 0
    · subst h0
      rw [burst_zero]; exact fin l p
    have eq : wrap64 ((p / 8 : Nat) : Int) = ((p / 8 : Nat) : Int) := wrap_id (by omega) (by omega)
    have ep : wrap64 ((p : Int) + 1) = ((p + 1 : Nat) : Int) := by rw [wrap_id (by omega) (by omega)]; omega
    unfold Burst.burst
    by_cases hlt : p < 8 * l.length
    rotate_left
    · rw [if_neg hlt]
      refine Ev.step (f := fun _ => some (strOfNums (nl l), true)) (fun k => ?_) (Ev.now _)
      rw [impl_BurstAt.l0.eq_2, if_pos (by omega), tdiv_nat, eq, if_neg (by rw [nl_length]; omega)]
    have hq : p / 8 < l.length := by omega
    have hbit : Go.bits .and .i64 (c : Int) 1 = ((c % 2 : Nat) : Int) := and_one (Nat.lt_of_lt_of_le hc (Nat.le_trans (Nat.pow_le_pow_right (by decide) hd) (by decide)))
    have hsh : shl .i64 ((c % 2 : Nat) : Int) ((p % 8 : Nat) : Int) % 256 = ((c % 2 * 2 ^ (p % 8) : Nat) : Int) := by
      have : ∀ (x : Fin 2) (m : Fin 8), shl .i64 ((x.1 : Nat) : Int) ((m.1 : Nat) : Int) % 256 = ((x.1 * 2 ^ m.1 : Nat) : Int) := by decide
      exact this ⟨c % 2, by omega⟩ ⟨p % 8, by omega⟩
    have hlb : c % 2 * 2 ^ (p % 8) < 256 := by
      have := Burst.pow_byte p
      rcases Nat.mod_two_eq_zero_or_one c with h | h <;> rw [h] <;> omega
    rw [if_pos hlt]
    refine Ev.step (f := fun k => impl_BurstAt.l0 k ((p + 1 : Nat) : Int) ((c / 2 : Nat) : Int) (nl (if c % 2 = 1 then Burst.flip l p else l))) (fun k => ?_) ?_
    · rw [impl_BurstAt.l0.eq_2, if_pos (by omega), tdiv_nat, tmod_nat, eq, if_pos (by rw [nl_length]; omega), if_pos (by omega), if_pos (by omega), hbit, hsh, nl_rd l _ hq, xor_byte (Burst.getD_lt hb _) hlb, Int.toNat_natCast, nl_set, ep, half_nat]
      congr 2
      by_cases h1 : c % 2 = 1
      · rw [if_pos h1, h1, Nat.one_mul]; rfl
      · rw [if_neg h1, show c % 2 = 0 by omega, Nat.zero_mul, Nat.xor_zero, List.getD_eq_getElem?_getD, List.getElem?_eq_getElem hq]
        exact List.set_getElem_self hq
    · exact ih _ (p + 1) (c / 2) (by split; exact Burst.flip_bytes hb _; exact hb) (by split; rw [Burst.flip_length]; exact hl; exact hl) (by omega) (by rw [Nat.pow_succ] at hc; omega) (by omega)
theorem impl_BurstAt_ev (s : ByteArray) (hs0 : s.size ≤ 140737488351232) (a b : Int) (ha : a ≤ 9223372036854775807) : Ev (fun k => impl_BurstAt.f k s a b) (burstV s a b) := by
  have bad : Ev (fun k => impl_BurstAt.j0 k s a b true) ((⟨#[]⟩ : ByteArray), false) := Ev.step (f := fun _ => some ((⟨#[]⟩ : ByteArray), false)) (fun k => by rw [impl_BurstAt.j0.eq_2, if_pos rfl]) (Ev.now _)
  unfold impl_BurstAt.f burstV
  simp only [impl_isSummed_eq, impl_isSum_eq, Option.bind_some]
  by_cases h1 : s.size ≤ 400
  rotate_left
  · have : isL (s.size : Int) = false := by unfold isL; exact decide_eq_false (by omega)
    simp only [this, Bool.false_eq_true, if_false]; rw [if_neg (by omega)]; exact bad
  have hL : isL (s.size : Int) = true := by unfold isL; exact decide_eq_true (by omega)
  simp only [hL, if_true]
  by_cases h2 : a < 0
  · simp only [if_pos h2]; rw [if_neg (by omega)]; exact bad
  simp only [if_neg h2]
  obtain ⟨p, rfl⟩ := nat_of (a := a) (by omega)
  have ew : wrap64 ((p / 8 : Nat) : Int) = ((p / 8 : Nat) : Int) := wrap_id (by omega) (by omega)
  simp only [tdiv_nat, ew]
  by_cases h3 : ((p / 8 : Nat) : Int) ≥ (s.size : Int)
  · simp only [if_pos h3]; rw [if_neg (by omega)]; exact bad
  simp only [if_neg h3]
  cases hb : isS b
  · rw [if_neg (by simp)]; exact bad
  · rw [if_pos ⟨⟨by omega, by omega, by omega⟩, rfl⟩]
    obtain ⟨c, rfl, hc⟩ := isS_nat hb
    rw [Int.toNat_natCast, Int.toNat_natCast]
    refine Ev.step (f := fun k => impl_BurstAt.l0 k (p : Int) (c : Int) (nl (Crc.bl s))) (fun k => ?_) ?_
    · rw [impl_BurstAt.j0.eq_2, if_neg (by decide), bytesOf_nl]
    · exact impl_BurstAt_l0 32 (Crc.bl s) p c (bs_bl s) (by rw [Crc.bl_length]; exact h1) (by clear hc; omega) hc (Nat.le_refl _)

theorem spec_l1Cur_one_ex {s : List Int} (hs : BY s) {a : Int} (d : Int) (n : Int) (ha : 0 ≤ a) (hb : a ≤ 900000000000) : ∃ v a' d', spec_l1Cur_one.f s a d n = some (v, a', d') ∧ 0 ≤ a' ∧ a' ≤ a + 2 := by
  obtain ⟨v, a1, d1, e1, h2, h3, h4, h5, h6⟩ := spec_l1Cur_pick_ex hs d n ha hb
  unfold spec_l1Cur_one.f
  rw [e1, Option.bind_some]
  exact ⟨_, _, _, rfl, h5, h6⟩

theorem sp_succ (i : Nat) (h : i ≤ 100000) : wrap64 ((i : Int) + 1) = ((i + 1 : Nat) : Int) := by rw [wrap_in (by omega) (by omega)]; omega
theorem sp_pred (i : Nat) (h : i ≤ 100000) : wrap64 (((i + 1 : Nat) : Int) - 1) = (i : Int) := by rw [wrap_in (by omega) (by omega)]; omega
theorem or_lt {v n : Int} (h : v < n ∨ v = 0) (hn : n > 0) : v < n := by omega
theorem spec_l1Cur_spoilt_l0 {s : List Int} (hs : BY s) (B : ByteArray) (hB : B.size = 3) : ∀ (n : Nat) (t : ByteArray) (a d : Int), n ≤ 10 → t.size + n ≤ 1000 → 0 ≤ a → a ≤ 700000000000 - 6 * n → ∃ v a' d', Ev (fun k => spec_l1Cur_spoilt.l0 k t B (n : Int) s a d) (v, a', d') ∧ 0 ≤ a' ∧ a' ≤ a + 6 * n := by
  have stop : ∀ (t : ByteArray) (n a d : Int), Ev (fun k => spec_l1Cur_spoilt.j1 k t B n false s a d) (t, a, d) := fun t n a d =>
    Ev.step (f := fun _ => some (t, a, d)) (fun k => by simp only [spec_l1Cur_spoilt.j1, Bool.false_eq_true, if_false]) (Ev.now _)
  have hz : (B.size : Int) = 3 := by rw [hB]; rfl
  intro n
  induction n with
  | zero =>
    intro t a d _ ht ha hb
    refine ⟨t, a, d, ?_, by omega, by omega⟩
    exact Ev.step (f := fun k => spec_l1Cur_spoilt.j1 k t B ((0 : Nat) : Int) false s a d) (fun k => by simp only [spec_l1Cur_spoilt.l0]; rw [if_neg (by omega)]) (stop _ _ _ _)
  | succ n ih =>
    intro t a d hn ht ha hb
    have hp : ((n + 1 : Nat) : Int) > 0 := by omega
    by_cases h0 : (t.size : Int) > 0
    rotate_left
    · refine ⟨t, a, d, ?_, by omega, by omega⟩
      refine Ev.step (f := fun k => spec_l1Cur_spoilt.j1 k t B ((n + 1 : Nat) : Int) false s a d) (fun k => ?_) (stop _ _ _ _)
      simp only [spec_l1Cur_spoilt.l0]
      rw [if_pos hp, decide_eq_false h0]
    obtain ⟨v1, a1, d1, e1, h1, h2, h3, h4, h5⟩ := spec_l1Cur_pick_ex hs d (t.size : Int) ha (by omega)
    replace h2 := or_lt h2 h0
    obtain ⟨v2, a2, d2, e2, g1, g2, g3, g4, g5⟩ := spec_l1Cur_pick_ex hs d1 (B.size : Int) h4 (by omega)
    replace g2 := or_lt g2 (by rw [hz]; decide)
    obtain ⟨v3, a3, d3, e3, k1, k2, k3, k4, k5⟩ := spec_l1Cur_pick_ex hs d2 3 g4 (by omega)
    have h6 : a3 ≤ a + 6 := by omega
    clear k1 k2 k3 k5 g3 g5 h5 h3 g4 h4
    obtain ⟨i, rfl⟩ := nat_of h1
    have hi : i < t.size := Int.ofNat_lt.1 h2
    have ew := sp_succ i (by omega)
    have ew2 := sp_pred n (by omega)
    have c1 : (0 : Int) ≤ v2 := g1
    have c2 : v2 < (B.size : Int) := g2
    have c3 : (0 : Int) ≤ (i : Int) := by omega
    have c4 : (i : Int) ≤ (t.size : Int) := by omega
    have c5 : (0 : Int) ≤ ((i + 1 : Nat) : Int) := by omega
    have c6 : ((i + 1 : Nat) : Int) ≤ (t.size : Int) := by omega
    have one : ∀ x : Int, (strOfNums [x]).size = 1 := fun x => son_size _
    have s1 : (t.extract 0 i).size = i := by rw [ByteArray.size_extract]; omega
    have s2 : (t.extract i t.size).size = t.size - i := by rw [ByteArray.size_extract]; omega
    have s3 : (t.extract (i + 1) t.size).size = t.size - (i + 1) := by rw [ByteArray.size_extract]; omega
    have go : ∀ t' : ByteArray, t'.size ≤ t.size + 1 → (∀ k, spec_l1Cur_spoilt.j1 (k + 1) t B ((n + 1 : Nat) : Int) true s a d = spec_l1Cur_spoilt.l0 k t' B (n : Int) s a3 d3) →
        ∃ v a' d', Ev (fun k => spec_l1Cur_spoilt.l0 k t B ((n + 1 : Nat) : Int) s a d) (v, a', d') ∧ 0 ≤ a' ∧ a' ≤ a + 6 * ((n + 1 : Nat) : Int) := by
      intro t' ht' hk
      obtain ⟨v, a4, d4, e4, m1, m2⟩ := ih t' a3 d3 (by omega) (by omega) k4 (by omega)
      refine ⟨v, a4, d4, ?_, m1, by omega⟩
      refine Ev.step (f := fun k => spec_l1Cur_spoilt.j1 k t B ((n + 1 : Nat) : Int) true s a d) (fun k => ?_) ?_
      · simp only [spec_l1Cur_spoilt.l0]
        rw [if_pos hp, decide_eq_true h0]
      · exact Ev.step (f := fun k => spec_l1Cur_spoilt.l0 k t' B (n : Int) s a3 d3) hk e4
    by_cases q0 : v3 = 0
    · refine go ((t.extract 0 i ++ strOfNums [bt B v2]) ++ t.extract i t.size) (by simp only [ByteArray.size_append, one, s1, s2]; omega) (fun k => ?_)
      simp only [spec_l1Cur_spoilt.j1, if_true, e1, e2, e3, Option.bind_some, if_pos c1, if_pos c2, if_pos q0, if_pos c3, if_pos c4, Int.toNat_natCast, ew2]
      rw [if_pos (by rw [s1, one]; omega), if_pos (by rw [ByteArray.size_append, s1, one, s2]; omega)]
    by_cases q1 : v3 = 1
    · refine go ((t.extract 0 i ++ strOfNums [bt B v2]) ++ t.extract (i + 1) t.size) (by simp only [ByteArray.size_append, one, s1, s3]; omega) (fun k => ?_)
      simp only [spec_l1Cur_spoilt.j1, if_true, e1, e2, e3, Option.bind_some, if_pos c1, if_pos c2, if_neg q0, if_pos q1, if_pos c3, if_pos c4, ew, if_pos c5, if_pos c6, Int.toNat_natCast, ew2]
      rw [if_pos (by rw [s1, one]; omega), if_pos (by rw [ByteArray.size_append, s1, one, s3]; omega)]
    · refine go (t.extract 0 i ++ t.extract (i + 1) t.size) (by simp only [ByteArray.size_append, s1, s3]; omega) (fun k => ?_)
      simp only [spec_l1Cur_spoilt.j1, if_true, e1, e2, e3, Option.bind_some, if_pos c1, if_pos c2, if_neg q0, if_neg q1, if_pos c3, if_pos c4, ew, if_pos c5, if_pos c6, Int.toNat_natCast, ew2]
      rw [if_pos (by rw [s1, s3]; omega)]
theorem spec_l1Cur_spoilt_ex {s : List Int} (hs : BY s) (t : ByteArray) {a : Int} (d : Int) (ht : t.size ≤ 100) (ha : 0 ≤ a) (hb : a ≤ 600000000000) : ∃ v a' d', Ev (fun k => spec_l1Cur_spoilt.f k s a d t (⟨#[0, 1, 255]⟩ : ByteArray)) (v, a', d') ∧ 0 ≤ a' ∧ a' ≤ a + 30 := by
  obtain ⟨v1, a1, d1, e1, h1, h2, h3, h4, h5⟩ := spec_l1Cur_pick_ex hs d 3 ha (by omega)
  obtain ⟨n, rfl⟩ := nat_of h1
  obtain ⟨v, a2, d2, e2, h6, h7⟩ := spec_l1Cur_spoilt_l0 hs (⟨#[0, 1, 255]⟩ : ByteArray) rfl n t a1 d1 (by omega) (by omega) h4 (by omega)
  refine ⟨v, a2, d2, ?_, h6, by omega⟩
  unfold spec_l1Cur_spoilt.f
  simp only [e1, Option.bind_some]
  exact e2

theorem spec_l1Cur_sector_ex {s : List Int} (hs : BY s) {a : Int} (d : Int) (ha : 0 ≤ a) (hb : a ≤ 500000000000) : ∃ v a' d', Ev (fun k => spec_l1Cur_sector.f k s a d) (v, a', d') ∧ 0 ≤ a' ∧ a' ≤ a + 60 := by
  obtain ⟨x, y, z, b, a1, d1, e1, h1, h2, h3⟩ := spec_l1Cur_frame_ex hs d ha (by omega)
  obtain ⟨v, a2, d2, e2, h4, h5⟩ := spec_l1Cur_one_ex hs d1 3 h2 (by omega)
  have E := spec_FrameBytes_ev x y z b
  have hg : (if goodF x y z b = true then (frB x y z b, true) else ((⟨#[]⟩ : ByteArray), false)).1.size ≤ 100 := by
    split
    · rename_i h
      rw [frB_size _ _ _ _ (goodF_bd h).2.2.2.2.2.2]; omega
    · exact Nat.zero_le _
  generalize (if goodF x y z b = true then (frB x y z b, true) else ((⟨#[]⟩ : ByteArray), false)) = g at E hg
  obtain ⟨u, ok⟩ := g
  unfold spec_l1Cur_sector.f
  cases v
  · refine ⟨u, a2, d2, ?_, h4, by omega⟩
    simp only [e1, Option.bind_some]
    refine Ev.bind E ?_
    simp only [e2, Option.bind_some, Bool.false_eq_true, if_false]
    exact Ev.now _
  · obtain ⟨t, a3, d3, e3, h6, h7⟩ := spec_l1Cur_spoilt_ex hs u d2 hg h4 (by omega)
    refine ⟨t, a3, d3, ?_, h6, by omega⟩
    simp only [e1, Option.bind_some]
    refine Ev.bind E ?_
    simp only [e2, Option.bind_some, if_true]
    exact Ev.bind e3 (Ev.now _)

theorem spec_DrawReadFrame_ex {s : List Int} (hs : BY s) : ∃ v, Ev (fun k => spec_DrawReadFrame.f k s) v := by
  obtain ⟨v, a1, d1, e1, _, _⟩ := spec_l1Cur_sector_ex hs (a := 0) 0 (by omega) (by omega)
  refine ⟨v, ?_⟩
  unfold spec_DrawReadFrame.f
  exact Ev.bind e1 (Ev.now _)

theorem spec_l6Value_one (s : ByteArray) (hs : s.size = 1) : Ev (fun k => spec_l6Value.f k s) (bt s 0) := by
  have r0 := bt_range s 0
  have e0 : Go.bits .or .i64 (wrap64 (0 * 256)) (wrap64 (bt s 0)) = bt s 0 := by rw [or_add (by omega) r0]; omega
  have ew : wrap64 (0 + 1) = 1 := wrap_id (by omega) (by omega)
  refine Ev.step (f := fun k => spec_l6Value.l0 k s (bt s 0) 1) (fun k => ?_) ?_
  · unfold spec_l6Value.f; rw [spec_l6Value.l0.eq_2, if_pos (by omega), if_pos (by omega), e0, ew]
  · exact Ev.step (f := fun _ => some (bt s 0)) (fun k => by rw [spec_l6Value.l0.eq_2, if_neg (by omega)]) (Ev.now _)
theorem spec_l6Value_two (s : ByteArray) (hs : s.size = 2) : Ev (fun k => spec_l6Value.f k s) (bt s 0 * 256 + bt s 1) := by
  have r0 := bt_range s 0
  have r1 := bt_range s 1
  have e0 : Go.bits .or .i64 (wrap64 (0 * 256)) (wrap64 (bt s 0)) = bt s 0 := by rw [or_add (by omega) r0]; omega
  have e1 : Go.bits .or .i64 (wrap64 (bt s 0 * 256)) (wrap64 (bt s 1)) = bt s 0 * 256 + bt s 1 := or_add (by omega) r1
  have ew : wrap64 (0 + 1) = 1 := wrap_id (by omega) (by omega)
  have ew2 : wrap64 (1 + 1) = 2 := wrap_id (by omega) (by omega)
  refine Ev.step (f := fun k => spec_l6Value.l0 k s (bt s 0) 1) (fun k => ?_) ?_
  · unfold spec_l6Value.f; rw [spec_l6Value.l0.eq_2, if_pos (by omega), if_pos (by omega), e0, ew]
  refine Ev.step (f := fun k => spec_l6Value.l0 k s (bt s 0 * 256 + bt s 1) 2) (fun k => ?_) ?_
  · rw [spec_l6Value.l0.eq_2, if_pos (by omega), if_pos (by omega), e1, ew2]
  · exact Ev.step (f := fun _ => some (bt s 0 * 256 + bt s 1)) (fun k => by rw [spec_l6Value.l0.eq_2, if_neg (by omega)]) (Ev.now _)

theorem spec_ReadFrame_ev (s : ByteArray) : Ev (fun k => spec_ReadFrame.f k s) (readV s) := by
  unfold spec_ReadFrame.f readV
  by_cases hs : (s.size : Int) = 28
  rotate_left
  · simp only [if_neg hs]; exact Ev.now _
  have hz : s.size = 28 := by omega
  have r5 := bt_range s 5
  have x24 : (s.extract 0 24).size = 24 := by rw [ByteArray.size_extract]; omega
  have p1 : (0 : Int) ≤ 24 := by omega
  have p2 : (24 : Int) ≤ (s.size : Int) := by omega
  have p3 : (0 : Int) ≤ 1 := by omega
  have p4 : (1 : Int) ≤ (s.size : Int) := by omega
  have p5 : (1 : Int) ≤ 3 := by omega
  have p6 : (3 : Int) ≤ (s.size : Int) := by omega
  have p7 : (3 : Int) ≤ 5 := by omega
  have p8 : (5 : Int) ≤ (s.size : Int) := by omega
  have p9 : (5 : Int) < (s.size : Int) := by omega
  simp only [if_pos hs, if_pos p1, if_pos p2]
  refine Ev.bind (spec_l5On_ev 0 (s.extract 0 24) (by omega) (by decide)) ?_
  refine Ev.bind (spec_l6Low_ev _) ?_
  by_cases hl : (strOfNums (lowL ((Crc.sumL 0 (Crc.bl (s.extract 0 24)) : Nat) : Int))).toList = (s.extract 24 s.size).toList
  rotate_left
  · simp only [if_neg hl]; exact Ev.now _
  simp only [if_pos hl, if_pos p3, if_pos p4, if_pos p5, if_pos p6, if_pos p7, if_pos p8, if_pos p9]
  have E1 := spec_l6Value_one (s.extract 0 1) (by rw [ByteArray.size_extract]; omega)
  have E2 := spec_l6Value_two (s.extract 1 3) (by rw [ByteArray.size_extract]; omega)
  have E3 := spec_l6Value_two (s.extract 3 5) (by rw [ByteArray.size_extract]; omega)
  have q0 : bt (s.extract 0 1) 0 = bt s 0 := bt_extract s 0 1 0 (by omega) (by omega)
  have q1 : bt (s.extract 1 3) 0 = bt s 1 := bt_extract s 1 3 0 (by omega) (by omega)
  have q2 : bt (s.extract 1 3) 1 = bt s 2 := bt_extract s 1 3 1 (by omega) (by omega)
  have q3 : bt (s.extract 3 5) 0 = bt s 3 := bt_extract s 3 5 0 (by omega) (by omega)
  have q4 : bt (s.extract 3 5) 1 = bt s 4 := bt_extract s 3 5 1 (by omega) (by omega)
  rw [q0] at E1
  rw [q1, q2] at E2
  rw [q3, q4] at E3
  refine Ev.bind E1 ?_
  refine Ev.bind E2 ?_
  refine Ev.bind E3 ?_
  have w5 : wrap64 (bt s 5) = bt s 5 := wrap_id (by omega) (by omega)
  have w6 : wrap64 (6 + bt s 5) = 6 + bt s 5 := wrap_id (by omega) (by omega)
  simp only [w5, w6]
  by_cases h16 : bt s 5 > 16
  · have hm : mn 16 (bt s 5) = 16 := by unfold mn; rw [if_neg (by omega)]
    have hx : (s.extract 6 (6 + mn 16 (bt s 5)).toNat).size = 16 := by rw [hm, ByteArray.size_extract]; omega
    have hn : ¬ (frB (bt s 0) (bt s 1 * 256 + bt s 2) (bt s 3 * 256 + bt s 4) (s.extract 6 (6 + mn 16 (bt s 5)).toNat)).toList = s.toList := by
      intro h
      have := bt_frB (bt s 0) (bt s 1 * 256 + bt s 2) (bt s 3 * 256 + bt s 4) (s.extract 6 (6 + mn 16 (bt s 5)).toNat) (by omega)
      rw [bytes_ext h, hx] at this
      omega
    simp only [if_pos h16, if_neg hn, ite_self]
    exact Ev.now _
  · have hm : mn 16 (bt s 5) = bt s 5 := by unfold mn; split <;> omega
    have p10 : (6 : Int) ≤ 6 + bt s 5 := by omega
    have p11 : 6 + bt s 5 ≤ (s.size : Int) := by omega
    simp only [if_neg h16, if_pos p10, if_pos p11, hm, spec_GoodFrame_eq, Option.bind_some]
    cases hg : goodF (bt s 0) (bt s 1 * 256 + bt s 2) (bt s 3 * 256 + bt s 4) (s.extract 6 (6 + bt s 5).toNat)
    · simp only [Bool.false_eq_true, if_false]; exact Ev.now _
    · simp only [if_true]
      refine Ev.bind (spec_l6Frame_ev _ _ _ _ (goodF_bd hg).2.2.2.2.2.2) ?_
      split <;> exact Ev.now _

theorem spec_DrawCheckFrame_ex {s : List Int} (hs : BY s) : ∃ v a b c, Ev (fun k => spec_DrawCheckFrame.f k s) (v, a, b, c) := by
  obtain ⟨x, y, z, b, a1, d1, e1, h1, h2, h3⟩ := spec_l1Cur_frame_ex hs (a := 0) 0 (by omega) (by omega)
  obtain ⟨v, a2, d2, e2, h4, h5⟩ := spec_l1Cur_one_ex hs d1 4 h2 (by omega)
  have E := spec_FrameBytes_ev x y z b
  generalize (if goodF x y z b = true then (frB x y z b, true) else ((⟨#[]⟩ : ByteArray), false)) = g at E
  obtain ⟨u, ok⟩ := g
  unfold spec_DrawCheckFrame.f
  cases v
  · obtain ⟨v1, a3, d3, e3, g1, g2, g3, g4, g5⟩ := spec_l1Cur_pick_ex hs d2 6 h4 (by omega)
    obtain ⟨v2, a4, d4, e4, i1, i2, i3, i4, i5⟩ := spec_l1Cur_pick_ex hs d3 6 g4 (by omega)
    obtain ⟨v3, a5, d5, e5, k1, k2, k3, k4, k5⟩ := spec_l1Cur_pick_ex hs d4 3 i4 (by omega)
    refine ⟨u, wrap64 (x + wrap64 (Int.tdiv v1 5)), wrap64 (y + wrap64 (Int.tdiv v2 5)), wrap64 (wrap64 (z + v3) - 1), ?_⟩
    simp only [e1, Option.bind_some]
    refine Ev.bind E ?_
    simp only [e2, e3, e4, e5, Option.bind_some, Bool.false_eq_true, if_false]
    exact Ev.now _
  · obtain ⟨t, a3, d3, e3, h6, h7⟩ := spec_l1Cur_sector_ex hs d2 h4 (by omega)
    obtain ⟨v2, a4, d4, e4, i1, i2, i3, i4, i5⟩ := spec_l1Cur_pick_ex hs d3 4 h6 (by omega)
    refine ⟨t, 1, v2, 0, ?_⟩
    simp only [e1, Option.bind_some]
    refine Ev.bind E ?_
    simp only [e2, Option.bind_some, if_true]
    refine Ev.bind e3 ?_
    simp only [e4, Option.bind_some]
    exact Ev.now _

theorem spec_CheckFrame_ev (s : ByteArray) (a1 a2 a3 : Int) : Ev (fun k => spec_CheckFrame.f k s a1 a2 a3) (checkV s a1 a2 a3) := by
  unfold spec_CheckFrame.f checkV
  refine Ev.bind (spec_ReadFrame_ev s) ?_
  repeat' split
  all_goals exact Ev.now _

/-- What SumOn answers. -/
def sumOnV (a : Int) (s : ByteArray) : Int × Bool := if isS a && decide (s.size ≤ 400) then (((Crc.sumL a.toNat (Crc.bl s) : Nat) : Int), true) else (0, false)

theorem bl_str {l : List Nat} (h : Burst.Bs l) : Crc.bl (strOfNums (nl l)) = l := by
  unfold Crc.bl
  rw [strOfNums_data]
  unfold nl
  rw [List.map_map, List.map_map]
  conv => rhs; rw [← List.map_id l]
  apply List.map_congr_left
  intro x hx
  show (UInt8.ofNat ((x : Int).toNat)).toNat = x
  rw [Int.toNat_natCast]
  simp [Nat.mod_eq_of_lt (h x hx)]
theorem bl_inj {a b : ByteArray} (h : Crc.bl a = Crc.bl b) : a = b := by
  unfold Crc.bl at h
  have h2 := (List.map_inj_right (fun x y hxy => UInt8.toNat_inj.1 hxy)).1 h
  cases a; cases b
  simp only [ByteArray.mk.injEq]
  exact Array.toList_inj.1 h2
theorem str_bl (s : ByteArray) : strOfNums (nl (Crc.bl s)) = s := bl_inj (bl_str (Crc.bl_lt s))
theorem shN_shs : ∀ n x, Crc.shN n x = Burst.shs n x
  | 0, _ => rfl
  | n + 1, x => shN_shs n (Burst.sh x)
theorem crc_same : ∀ (l : List Nat) (x : Nat), Crc.crcL l x = Burst.crc l x
  | [], _ => rfl
  | c :: l, x => by
    show Crc.crcL l (Crc.shN 8 (x ^^^ c)) = Burst.crc l (Burst.shs 8 (x ^^^ c))
    rw [shN_shs, crc_same l]
/-- The text with a burst. -/
def burstT (s : ByteArray) (p c : Nat) : ByteArray := strOfNums (nl (Burst.burst 32 (Crc.bl s) p c))
theorem burstT_bl (s : ByteArray) (p c : Nat) : Crc.bl (burstT s p c) = Burst.burst 32 (Crc.bl s) p c := bl_str (Burst.burst_bytes 32 p c (Crc.bl_lt s))
theorem burstT_size (s : ByteArray) (p c : Nat) : (burstT s p c).size = s.size := by rw [← Crc.bl_length, burstT_bl, Burst.burst_length, Crc.bl_length]
theorem burstT_back (s : ByteArray) {p c : Nat} (hc : c < 2 ^ 32) (hp : p ≤ 8 * s.size) : burstT (burstT s p c) p c = s := by
  apply bl_inj
  rw [burstT_bl, burstT_bl]
  exact Burst.burst_twice (Crc.bl_lt s) hc (by rw [Crc.bl_length]; exact hp)
/-- A burst that changes anything changes the sum. -/
theorem burstT_sum (s : ByteArray) {p c : Nat} (hc : c < 2 ^ 32) (hp : p ≤ 8 * s.size) : Crc.sumL 0 (Crc.bl s) = Crc.sumL 0 (Crc.bl (burstT s p c)) ↔ s = burstT s p c := by
  have h := Burst.burst_sum (Crc.bl_lt s) hc (by rw [Crc.bl_length]; exact hp) (0 ^^^ Crc.ones)
  constructor
  · intro e
    unfold Crc.sumL at e
    have e2 := congrArg (fun z => z ^^^ Crc.ones) e
    simp only [Nat.xor_assoc, Nat.xor_self, Nat.xor_zero] at e2
    rw [crc_same, crc_same, burstT_bl] at e2
    simp only [Nat.zero_xor] at h
    exact bl_inj ((h.1 e2).trans (burstT_bl s p c).symm)
  · intro e
    rw [← e]
theorem burstV_yes {s : ByteArray} {p c : Nat} (h : s.size ≤ 400) (hp : p < 8 * s.size) (hc : c < 2 ^ 32) : burstV s (p : Int) (c : Int) = (burstT s p c, true) := by
  unfold burstV
  rw [if_pos ⟨⟨h, by omega, by omega⟩, by unfold isS; exact decide_eq_true (by omega)⟩, Int.toNat_natCast, Int.toNat_natCast]
  rfl

theorem bl_append (a b : ByteArray) : Crc.bl (a ++ b) = Crc.bl a ++ Crc.bl b := by
  unfold Crc.bl
  rw [ByteArray.data_append, Array.toList_append, List.map_append]
theorem extract_join (s : ByteArray) (i : Nat) (h : i ≤ s.size) : s.extract 0 i ++ s.extract i s.size = s := by
  rw [ByteArray.extract_append_extract, Nat.min_eq_left (Nat.zero_le _), Nat.max_eq_right h]
  exact ByteArray.extract_zero_size
theorem lowL_T (n : Nat) (h : n < 4294967296) : Burst.T (Crc.bl (strOfNums (lowL (n : Int)))) = n := by
  have e : lowL (n : Int) = nl [n % 256, n / 256 % 256, n / 65536 % 256, n / 16777216 % 256] := by
    unfold lowL nl
    simp only [List.map_cons, List.map_nil, List.cons.injEq, and_true]
    exact ⟨by omega, by omega, by omega, by omega⟩
  rw [e, bl_str (by intro x hx; simp only [List.mem_cons, List.not_mem_nil, or_false] at hx; omega)]
  show n % 256 + 256 * (n / 256 % 256 + 256 * (n / 65536 % 256 + 256 * (n / 16777216 % 256 + 256 * 0))) = n
  omega
/-- A text that carries its own sum: its sum is one number. -/
theorem own_sum {s : ByteArray} (hs : s.size = 28) (h : (strOfNums (lowL ((Crc.sumL 0 (Crc.bl (s.extract 0 24)) : Nat) : Int))).toList = (s.extract 24 s.size).toList) :
    Crc.sumL 0 (Crc.bl s) = Burst.shs 32 Crc.ones ^^^ Crc.ones := by
  have hx := bytes_ext h
  have hj := extract_join s 24 (by omega)
  have hlt := Crc.sumL_lt (x := 0) (by decide) (Crc.bl_lt (s.extract 0 24))
  have hT := lowL_T _ hlt
  generalize hy : s.extract 0 24 = p at hx hj hlt hT
  rw [← hx] at hj
  have hb : Burst.Bs (Crc.bl (strOfNums (lowL ((Crc.sumL 0 (Crc.bl p) : Nat) : Int)))) := bs_bl _
  have hl : (Crc.bl (strOfNums (lowL ((Crc.sumL 0 (Crc.bl p) : Nat) : Int)))).length = 4 := by rw [Crc.bl_length, son_size]; rfl
  generalize hq : strOfNums (lowL ((Crc.sumL 0 (Crc.bl p) : Nat) : Int)) = q at hj hT hb hl
  rw [← hj, bl_append]
  have e0 : Crc.sumL 0 (Crc.bl p ++ Crc.bl q) = Crc.crcL (Crc.bl q) (Crc.crcL (Crc.bl p) (0 ^^^ Crc.ones)) ^^^ Crc.ones := by
    unfold Crc.sumL
    rw [Crc.crcL_append]
  have e1 : Crc.sumL 0 (Crc.bl p) = Crc.crcL (Crc.bl p) (0 ^^^ Crc.ones) ^^^ Crc.ones := rfl
  rw [e0, crc_same, Burst.crc_bp _ hb, hl, hT, Burst.bp_shs _ _ _ hlt, e1, ← Nat.xor_assoc, Nat.xor_self, Nat.zero_xor]
theorem readV_ok {s : ByteArray} {k a e : Int} {b : ByteArray} {c : Int} (h : readV s = (k, a, e, b, c, true)) : s.size = 28 ∧ (strOfNums (lowL ((Crc.sumL 0 (Crc.bl (s.extract 0 24)) : Nat) : Int))).toList = (s.extract 24 s.size).toList ∧ goodF k a e b = true ∧ frB k a e b = s ∧ c = 0 := by
  unfold readV at h
  split at h
  · rename_i h1
    split at h
    · rename_i h2
      split at h
      · rename_i h3
        split at h
        · rename_i h4
          injection h with q1 q2
          injection q2 with q2 q3
          injection q3 with q3 q4
          injection q4 with q4 q5
          injection q5 with q5 q6
          subst q1 q2 q3 q4
          exact ⟨by omega, h2, h3, bytes_ext h4, q5.symm⟩
        · exact absurd (show false = true from congrArg (fun q : Int × Int × Int × ByteArray × Int × Bool => q.2.2.2.2.2) h) (by decide)
      · exact absurd (show false = true from congrArg (fun q : Int × Int × Int × ByteArray × Int × Bool => q.2.2.2.2.2) h) (by decide)
    · exact absurd (show false = true from congrArg (fun q : Int × Int × Int × ByteArray × Int × Bool => q.2.2.2.2.2) h) (by decide)
  · exact absurd (show false = true from congrArg (fun q : Int × Int × Int × ByteArray × Int × Bool => q.2.2.2.2.2) h) (by decide)
/-- A burst in a frame shows. -/
theorem readV_burst {s : ByteArray} {k a e : Int} {b : ByteArray} {c : Int} {p m : Nat} (h : readV s = (k, a, e, b, c, true)) (hm : m < 2 ^ 32) (hp : p ≤ 8 * s.size) (hne : ¬ s = burstT s p m) : readV (burstT s p m) = (0, 0, 0, (⟨#[]⟩ : ByteArray), 2, false) := by
  obtain ⟨h1, h2, _⟩ := readV_ok h
  have hz := burstT_size s p m
  unfold readV
  rw [if_pos (by omega), if_neg]
  intro h3
  exact hne ((burstT_sum s hm hp).1 ((own_sum h1 h2).trans (own_sum (by omega) h3).symm))
theorem fr_split (k a e : Int) (b : ByteArray) : frB k a e b = strOfNums (hdL k a e b) ++ strOfNums (lowL ((Crc.sumL 0 (Crc.bl (strOfNums (hdL k a e b))) : Nat) : Int)) := by
  unfold frB
  rw [son_append]
theorem fr_body (k a e : Int) (b : ByteArray) : (frB k a e b).extract 6 (6 + b.size) = b := by
  have h : frB k a e b = strOfNums [k % 256, a / 256 % 256, a % 256, e / 256 % 256, e % 256, (b.size : Int) % 256] ++ (b ++ (strOfNums (List.replicate (18 - b.size) 0) ++ strOfNums (lowL ((Crc.sumL 0 (Crc.bl (strOfNums (hdL k a e b))) : Nat) : Int)))) := by
    rw [fr_split]
    conv => lhs; arg 1; unfold hdL
    rw [son_append, son_append, son_bytesOf, ByteArray.append_assoc, ByteArray.append_assoc]
  have h6 : (strOfNums [k % 256, a / 256 % 256, a % 256, e / 256 % 256, e % 256, (b.size : Int) % 256]).size = 6 := son_size _
  rw [h]
  generalize strOfNums [k % 256, a / 256 % 256, a % 256, e / 256 % 256, e % 256, (b.size : Int) % 256] = p at h6
  have := ByteArray.extract_append_size_add (a := p) (b := b ++ (strOfNums (List.replicate (18 - b.size) 0) ++ strOfNums (lowL ((Crc.sumL 0 (Crc.bl (strOfNums (hdL k a e b))) : Nat) : Int)))) (i := 0) (j := b.size)
  rw [h6] at this
  rw [this]
  exact ByteArray.extract_append_eq_left rfl
theorem fr_byte (k a e : Int) (b : ByteArray) (n : Nat) (x : Int) (h0 : 0 ≤ x) (h1 : x < 256) (hx : (hdL k a e b ++ lowL ((Crc.sumL 0 (Crc.bl (strOfNums (hdL k a e b))) : Nat) : Int))[n]? = some x) : bt (frB k a e b) (n : Int) = x := by
  rw [← rd_bytesOf]
  unfold frB
  generalize hdL k a e b ++ lowL ((Crc.sumL 0 (Crc.bl (strOfNums (hdL k a e b))) : Nat) : Int) = l at hx
  show (bytesOf (strOfNums l)).getD (n : Int).toNat 0 = x
  rw [Int.toNat_natCast, List.getD_eq_getElem?_getD]
  have e1 : (bytesOf (strOfNums l))[n]? = (l[n]?).map (fun y : Int => ((UInt8.ofNat y.toNat).toNat : Int)) := by
    unfold bytesOf strOfNums
    rw [List.getElem?_map]
    show Option.map _ ((l.map (fun y : Int => UInt8.ofNat y.toNat)).toArray.toList[n]?) = _
    rw [List.toList_toArray, List.getElem?_map, Option.map_map]; rfl
  rw [e1, hx]
  show ((UInt8.ofNat x.toNat).toNat : Int) = x
  rw [UInt8.toNat_ofNat']
  omega
theorem readV_frB {k a e : Int} {b : ByteArray} (h : goodF k a e b = true) : readV (frB k a e b) = (k, a, e, b, 0, true) := by
  obtain ⟨h1, h2, h3, h4, h5, h6, h7⟩ := goodF_bd h
  have b0 : bt (frB k a e b) 0 = k := fr_byte k a e b 0 k (by omega) (by omega) (by show some (k % 256) = some k; congr 1; omega)
  have b1 : bt (frB k a e b) 1 = a / 256 := fr_byte k a e b 1 _ (by omega) (by omega) (by show some (a / 256 % 256) = some (a / 256); congr 1; omega)
  have b2 : bt (frB k a e b) 2 = a % 256 := fr_byte k a e b 2 _ (by omega) (by omega) rfl
  have b3 : bt (frB k a e b) 3 = e / 256 := fr_byte k a e b 3 _ (by omega) (by omega) (by show some (e / 256 % 256) = some (e / 256); congr 1; omega)
  have b4 : bt (frB k a e b) 4 = e % 256 := fr_byte k a e b 4 _ (by omega) (by omega) rfl
  have b5 := bt_frB k a e b h7
  have hm : (6 + mn 16 (b.size : Int)).toNat = 6 + b.size := by unfold mn; split <;> omega
  have hb := fr_body k a e b
  have hz := frB_size k a e b h7
  have hl := hdL_length k a e b h7
  have x1 : (frB k a e b).extract 0 24 = strOfNums (hdL k a e b) := by
    rw [fr_split]
    exact ByteArray.extract_append_eq_left (by rw [son_size, hl])
  have x2 : (frB k a e b).extract 24 (frB k a e b).size = strOfNums (lowL ((Crc.sumL 0 (Crc.bl (strOfNums (hdL k a e b))) : Nat) : Int)) := by
    rw [hz, fr_split]
    exact ByteArray.extract_append_eq_right (by rw [son_size, hl]) (by rw [son_size, son_size, hl]; rfl)
  have ea : a / 256 * 256 + a % 256 = a := by omega
  have ee : e / 256 * 256 + e % 256 = e := by omega
  unfold readV
  rw [x1, x2, b0, b1, b2, b3, b4, b5, hm, hb, ea, ee, if_pos (by omega), if_pos rfl, if_pos h, if_pos rfl]

/-- What is known of the world in the law's walk: the old memory stands, and some variables of the state type (the latest first). -/
def St (T : TypeId) (w0 : World) (L : List (Nat × Array Value)) (w : World) : Prop := Below w0.heap.size w0 w ∧ (∀ p ∈ L, w0.heap.size ≤ p.1 ∧ w.heap[p.1]? = some (.cells p.2 T (0, 0))) ∧ (L.map (·.1)).Nodup
section
variable {T : TypeId} {w0 w w' : World} {L : List (Nat × Array Value)}
theorem St.start (T : TypeId) (w : World) : St T w [] w := ⟨Below.refl _ _, fun _ h => (by cases h), List.nodup_nil⟩
theorem St.below (h : St T w0 L w) (hb : Below w.heap.size w w') : St T w0 L w' := ⟨below_step h.1 hb, fun p hp => ⟨(h.2.1 p hp).1, blk_below (h.2.1 p hp).2 hb⟩, h.2.2⟩
theorem St.drew (h : St T w0 L w) : St T w0 L w.drew := ⟨below_drew1 h.1, fun p hp => ⟨(h.2.1 p hp).1, blk_drew (h.2.1 p hp).2⟩, h.2.2⟩
theorem St.drewN (h : St T w0 L w) (n : Nat) : St T w0 L (w.drewN n) := ⟨pw_below_drewN h.1 n, fun p hp => ⟨(h.2.1 p hp).1, blk_drewN (h.2.1 p hp).2 n⟩, h.2.2⟩
theorem St.new (h : St T w0 L w) {g : Nat} (hg : g = w.heap.size) {cs : Array Value} (hbox : w'.heap[g]? = some (.cells cs T (0, 0))) (hb : Below w.heap.size w w') : St T w0 ((g, cs) :: L) w' := by
  have h1 := h.below hb
  refine ⟨h1.1, fun p hp => ?_, ?_⟩
  · rcases List.mem_cons.1 hp with rfl | hp
    · exact ⟨by rw [hg]; exact h.1.size, hbox⟩
    · exact h1.2.1 p hp
  · rw [List.map_cons, List.nodup_cons]
    refine ⟨fun hm => ?_, h.2.2⟩
    obtain ⟨p, hp, e⟩ := List.mem_map.1 hm
    have := blk_lt (h.2.1 p hp).2
    have e' : p.1 = g := e
    omega
theorem St.put {g : Nat} {a b c d v0 v1 v2 v3 : Value} (h : St T w0 ((g, #[a, b, c, d]) :: L) w) :
    St T w0 ((g, #[v0, v1, v2, v3]) :: L) ((((w.setCell ⟨g, 0, none⟩ v0).setCell ⟨g, 1, none⟩ v1).setCell ⟨g, 2, none⟩ v2).setCell ⟨g, 3, none⟩ v3) := by
  obtain ⟨h1, h2⟩ := h.2.1 _ List.mem_cons_self
  have hn := h.2.2
  rw [List.map_cons, List.nodup_cons] at hn
  refine ⟨below_set (below_set (below_set (below_set h.1 h1) h1) h1) h1, fun p hp => ?_, h.2.2⟩
  rcases List.mem_cons.1 hp with rfl | hp
  · exact ⟨h1, blk_put (blk_put (blk_put (blk_put h2 0 v0 rfl) 1 v1 rfl) 2 v2 rfl) 3 v3 rfl⟩
  · have hne : p.1 ≠ g := fun e => hn.1 (List.mem_map.2 ⟨p, hp, e⟩)
    obtain ⟨h3, h4⟩ := h.2.1 p (List.mem_cons_of_mem _ hp)
    exact ⟨h3, blk_far (blk_far (blk_far (blk_far h4 hne _) hne _) hne _) hne _⟩
theorem St.nil (h : St T w0 L w) : St T w0 [] w := ⟨h.1, fun _ h => (by cases h), List.nodup_nil⟩
theorem St.pop {p : Nat × Array Value} (h : St T w0 (p :: L) w) : St T w0 L w := ⟨h.1, fun q hq => h.2.1 q (List.mem_cons_of_mem _ hq), (List.nodup_cons.1 h.2.2).2⟩
theorem St.at (h : St T w0 L w) (i : Nat) {g : Nat} {cs : Array Value} (hi : L[i]? = some (g, cs)) : w.heap[g]? = some (.cells cs T (0, 0)) := (h.2.1 _ (List.mem_of_getElem? hi)).2
theorem St.gen {P : Program} {c : Code} {Q : Exit → Act → World → Prop} {a : Act} (h : St T w0 L w) (k : ∀ W, St T w0 L W → Code.wp P c Q a W) : Code.wp P c Q a w := k w h
variable {g : Nat} {v0 v1 v2 v3 : Value}
theorem cell4_0 (h : w.heap[g]? = some (.cells #[v0, v1, v2, v3] T (0, 0))) : w.cell? ⟨g, 0, none⟩ = some v0 := (blk_cell h 0).trans rfl
theorem cell4_1 (h : w.heap[g]? = some (.cells #[v0, v1, v2, v3] T (0, 0))) : w.cell? ⟨g, 1, none⟩ = some v1 := (blk_cell h 1).trans rfl
theorem cell4_2 (h : w.heap[g]? = some (.cells #[v0, v1, v2, v3] T (0, 0))) : w.cell? ⟨g, 2, none⟩ = some v2 := (blk_cell h 2).trans rfl
theorem cell4_3 (h : w.heap[g]? = some (.cells #[v0, v1, v2, v3] T (0, 0))) : w.cell? ⟨g, 3, none⟩ = some v3 := (blk_cell h 3).trans rfl
end
theorem neqF (a b c : Int) (d : ByteArray) (w : World) : (binOp .neq 49 (.agg #[.int .i64 a, .int .i64 b, .int .i64 c, .string d]) (.agg #[.int .i64 a, .int .i64 b, .int .i64 c, .string d])).run Try.prog w = .ok (.bool false) w := by
  have hu := Try.underlying49
  go_simp
def tF15 : Bool × List (List Nat × List Nat) := (true, [([], []), ([], []), ([1], [1]), ([], []), ([3], [3]), ([4], [4]), ([2, 5], [2, 5]), ([], []), ([7, 2], [7]), ([8], [8]), ([9], [9]), ([0, 6, 10, 8], [0, 6, 10]), ([11], [11]), ([12], [12]), ([12], [12]), ([13, 11, 0, 1, 2, 3, 4, 5, 6, 7, 8, 9, 10, 11, 12, 13], [13]), ([14, 15, 0, 1, 2, 3, 4, 5, 6, 7, 8, 9, 10, 11, 12, 13, 14, 15], [14])])
def bF15 : List Nat := [0, 0, 2, 0, 8, 24, 62, 0, 134, 390, 902, 2047, 4095, 8191, 8191, 16383, 65535]
theorem tabF15 : rtab .any (opsOf Try.f8 15) = tF15 := by kernel_rfl
theorem bitsF15 : waitsOk tF15.2 bF15 = true := by kernel_rfl

attribute [local go_sem high] neqF
set_option maxHeartbeats 4000000 in
set_option maxRecDepth 100000 in
theorem laws_FnFrames_calls (A0 : Option Addr) (c0 : Nat) (l0 : List Int) (A1 : Option Addr) (c1 : Nat) (l1 : List Int) (w : World) (hr0 : (Kd.int .u8).C w A0 l0.length l0) (hc0 : l0.length ≤ c0) (y0 : l0.length * 1 ≤ 140737488351232) (hw0 : ∀ x ∈ l0, (Lit.int .u8 x).wf = true)
    (hr1 : (Kd.int .u8).C w A1 l1.length l1) (hc1 : l1.length ≤ c1) (y1 : l1.length * 1 ≤ 140737488351232) (hw1 : ∀ x ∈ l1, (Lit.int .u8 x).wf = true) :
    Calls Try.prog 8 #[.slice A0 l0.length c0, .slice A1 l1.length c1] w fun e w' => e = .returned (.bool true) ∧ Below w.heap.size w w' := by
  have HB := Aside0.mk (Below.refl w.heap.size w)
  have HR1 := Aside0.mk hr1
  have HC0 := Aside0.mk hc0
  have HC1 := Aside0.mk hc1
  by_cases hlen : l0.length + l1.length ≤ 1048576
  rotate_left
  · clear hr0 hr1 hc0 hc1
    go_enter Try.func8, Try.ntmps8
    go_wp2
    go_ret
    exact ⟨rfl, HB.out⟩
  have hu49 := Try.underlying49
  obtain ⟨k, a, e, b, hd1, ka, kb, aa, ab, ea, eb, bb⟩ := spec_DrawFrameBytes_ex (wf_BY hw0)
  obtain ⟨u, hd2⟩ := spec_DrawReadFrame_ex (wf_BY hw1)
  obtain ⟨v, vx, vy, vz, hd3⟩ := spec_DrawCheckFrame_ex (wf_BY hw1)
  obtain ⟨n0, hn0, hn0b⟩ := laws_numberOf_ex (wf_BY hw0) (by omega)
  obtain ⟨n1, hn1, hn1b⟩ := laws_numberOf_ex (wf_BY hw1) (by omega)
  obtain ⟨KU, hd2⟩ := hd2.rounds
  obtain ⟨KV, hd3⟩ := hd3.rounds
  obtain ⟨KN0, hn0⟩ := hn0.rounds
  obtain ⟨KN1, hn1⟩ := hn1.rounds
  have hN0 := Aside0.mk hn0
  have hN1 := Aside0.mk hn1
  have cD1 := fun w (h : (Kd.int .u8).C w A0 l0.length l0) => spec_DrawFrameBytes.calls A0 c0 l0 k a e b w h HC0.out hd1
  have cDU := fun w (h : (Kd.int .u8).C w A1 l1.length l1) => spec_DrawReadFrame.calls KU A1 c1 l1 u w h HC1.out hd2
  have cDV := fun w (h : (Kd.int .u8).C w A1 l1.length l1) => spec_DrawCheckFrame.calls KV A1 c1 l1 v vx vy vz w h HC1.out hd3
  have HR0 := Aside0.mk hr0
  clear hd1 hd2 hd3 hn0 hn1 hw0 hw1 hr1 hc0 hc1 hr0
  obtain ⟨s, hs⟩ : ∃ s, (if goodF k a e b then (frB k a e b, true) else ((⟨#[]⟩ : ByteArray), false)) = (s, goodF k a e b) := by
    cases goodF k a e b
    · exact ⟨_, rfl⟩
    · exact ⟨_, rfl⟩
  obtain ⟨KI, hI⟩ := (impl_FrameBytes_ev k a e b).rounds
  obtain ⟨KS, hS⟩ := (spec_FrameBytes_ev k a e b).rounds
  rw [hs] at hI hS
  have cG := fun w => impl_GoodFrame.calls k a e b (goodF k a e b) w (impl_GoodFrame_eq k a e b)
  obtain ⟨ok, hok⟩ : ∃ ok, goodF k a e b = ok := ⟨_, rfl⟩
  rw [hok] at hI hS hs cG
  have cI := fun w => impl_FrameBytes.calls KI k a e b s ok w hI
  have cS := fun w => spec_FrameBytes.calls KS k a e b s ok w hS
  clear hI hS
  have HS := Aside0.mk hs
  have HOK := Aside0.mk hok
  clear hs hok
  have x1 : (ok != ok) = false := by simp
  have ST := Aside0.mk (St.start 49 w)
  go_enter Try.func8, Try.ntmps8
  go_wp2_with fail
  refine (cD1 _ HR0.out).mono ?_
  rintro ee w1 ⟨rfl, hb⟩
  replace ST := Aside0.mk (ST.out.below hb)
  clear hb
  go_upto_region 4 with (first | ((with_reducible refine gate_dst (N := 5) rfl ?_); (try (refine gate_guard (by rfl) ?_; dsimp only)); refine box_event ?hg (N := 5) ?hd (cs := #[.int .i64 0, .int .i64 0, .int .i64 0, .string (⟨#[]⟩ : ByteArray)]) (t := 49) ?hr ?_; (case hd => rfl); (case hg => rfl); (case hr => first | (go_simp; done) | (go_simp; rfl)); intro g5 hg WB hbox hb; have S_ := Aside0.mk (St.new ST.out hg hbox hb); clear ST hb hbox hg; have yb0 := cell4_0 (St.at S_.out 0 rfl); have yb1 := cell4_1 (St.at S_.out 0 rfl); have yb2 := cell4_2 (St.at S_.out 0 rfl); have yb3 := cell4_3 (St.at S_.out 0 rfl); have yf0 := blk_frozen (St.at S_.out 0 rfl) 0; have yf1 := blk_frozen (St.at S_.out 0 rfl) 1; have yf2 := blk_frozen (St.at S_.out 0 rfl) 2; have yf3 := blk_frozen (St.at S_.out 0 rfl) 3))
  clear HB
  refine St.gen (St.put S_.out) (fun WB2 ST_ => ?_)
  have ST := Aside0.mk ST_
  have HB := Aside0.mk ST_.1
  clear ST_ S_ yb0 yb1 yb2 yb3 yf0 yf1 yf2 yf3
  have sf_0 := cell4_0 (St.at ST.out 0 rfl)
  have sf_1 := cell4_1 (St.at ST.out 0 rfl)
  have sf_2 := cell4_2 (St.at ST.out 0 rfl)
  have sf_3 := cell4_3 (St.at ST.out 0 rfl)
  go_wp2_with fail
  (with_reducible refine (cI _).mono ?_)
  rintro e w101 ⟨rfl, hb⟩
  replace HB := Aside0.mk (HB.out.trans (hb.mono HB.out.size))
  replace ST := Aside0.mk (ST.out.below hb)
  clear hb sf_0 sf_1 sf_2 sf_3
  have sf_0 := cell4_0 (St.at ST.out 0 rfl)
  have sf_1 := cell4_1 (St.at ST.out 0 rfl)
  have sf_2 := cell4_2 (St.at ST.out 0 rfl)
  have sf_3 := cell4_3 (St.at ST.out 0 rfl)
  go_wp2_with fail
  (with_reducible refine (cS _).mono ?_)
  rintro e w102 ⟨rfl, hb⟩
  replace HB := Aside0.mk (HB.out.trans (hb.mono HB.out.size))
  replace ST := Aside0.mk (ST.out.below hb)
  clear hb sf_0 sf_1 sf_2 sf_3
  have sf_0 := cell4_0 (St.at ST.out 0 rfl)
  have sf_1 := cell4_1 (St.at ST.out 0 rfl)
  have sf_2 := cell4_2 (St.at ST.out 0 rfl)
  have sf_3 := cell4_3 (St.at ST.out 0 rfl)
  go_wp2_with fail
  (with_reducible refine (cG _).mono ?_)
  rintro e w103 ⟨rfl, hb⟩
  replace HB := Aside0.mk (HB.out.trans (hb.mono HB.out.size))
  replace ST := Aside0.mk (ST.out.below hb)
  clear hb sf_0 sf_1 sf_2 sf_3
  go_upto_if 77 with (fail)
  go_cut [] (fun wc => Aside0 (St 49 w [] wc))
  case first =>
    as_aux_lemma =>
      cases ok with
      | false =>
        clear cI cS cG cD1 cDU cDV
        go_wp2
        go_meet
        exact ⟨ST.out.nil⟩
      | true =>
        have hok := HOK.out
        have hs := HS.out
        rw [if_pos rfl] at hs
        injection hs with hs _
        have hrd := readV_frB hok
        have hz := frB_size k a e b (goodF_bd hok).2.2.2.2.2.2
        rw [hs] at hrd hz
        have w1 : wrap64 (a + 1) = a + 1 := wrap_in (by omega) (by omega)
        have w2 : wrap64 (e + 1) = e + 1 := wrap_in (by omega) (by omega)
        have k1 : checkV s k a e = (k, a, e, b, 0, true) := by
          unfold checkV
          simp only [hrd, if_true, if_neg (show ¬ e < e by omega)]
        have k2 : checkV s k (a + 1) 0 = (0, 0, 0, (⟨#[]⟩ : ByteArray), 4, false) := by
          unfold checkV
          simp only [hrd, if_true, if_neg (show ¬ a = a + 1 by omega)]
        have k3 : checkV s k a (e + 1) = (0, 0, 0, (⟨#[]⟩ : ByteArray), 5, false) := by
          unfold checkV
          simp only [hrd, if_true, if_pos (show e < e + 1 by omega)]
        obtain ⟨KR, hR⟩ := (impl_ReadFrame_ev s).rounds
        obtain ⟨K1, h1⟩ := (impl_CheckFrame_ev s k a e).rounds
        obtain ⟨K2, h2⟩ := (impl_CheckFrame_ev s k (a + 1) 0).rounds
        obtain ⟨K3, h3⟩ := (impl_CheckFrame_ev s k a (e + 1)).rounds
        rw [hrd] at hR
        rw [k1] at h1
        rw [k2] at h2
        rw [k3] at h3
        have cR := fun w => impl_ReadFrame.calls KR s k a e b 0 true w hR
        have c1 := fun w => impl_CheckFrame.calls K1 s k a e k a e b 0 true w h1
        have c2 := fun w => impl_CheckFrame.calls K2 s k (a + 1) 0 0 0 0 (⟨#[]⟩ : ByteArray) 4 false w h2
        have c3 := fun w => impl_CheckFrame.calls K3 s k a (e + 1) 0 0 0 (⟨#[]⟩ : ByteArray) 5 false w h3
        have z28 : ((s.size : Int) == 28) = true := by rw [hz]; rfl
        have z29 : ((s.size : Int) != 28) = false := by rw [hz]; rfl
        have zz : wrap64 (8 * (s.size : Int)) = 224 := by rw [hz, wrap_in (by omega) (by omega)]; rfl
        have zm : ((wrap64 (8 * (s.size : Int))) == 0) = false := by rw [zz]; rfl
        have zm3 : ¬ wrap64 (8 * (s.size : Int)) = 0 := by rw [zz]; decide
        have zm2 : ((wrap64 (8 * (s.size : Int))) != 0) = true := by rw [zz]; rfl
        have m1 : Int.tmod (n1 : Int) (wrap64 (8 * (s.size : Int))) = ((n1 % 224 : Nat) : Int) := by rw [zz]; rfl
        have m2 : wrap64 (1 + (wrap64 ((n0 : Int) * 4001))) = ((1 + n0 * 4001 : Nat) : Int) := by rw [wrap_in (n := (n0 : Int) * 4001) (by omega) (by omega), wrap_in (by omega) (by omega)]; omega
        have HMM := Aside0.mk (show 1 + n0 * 4001 < 2 ^ 32 from by
          have : (2 : Nat) ^ 32 = 4294967296 := rfl
          omega)
        have z400 : s.size ≤ 400 := by rw [hz]; decide
        have zp : n1 % 224 < 8 * s.size := by rw [hz]; exact Nat.mod_lt _ (by decide)
        have zs : s.size ≤ 140737488351232 := by rw [hz]; decide
        have zn : ((n1 % 224 : Nat) : Int) ≤ 9223372036854775807 := Int.le_trans (Int.ofNat_le.2 (Nat.le_of_lt (Nat.mod_lt n1 (by decide : 224 > 0)))) (by decide)
        have hbu := burstV_yes (s := s) (p := n1 % 224) (c := 1 + n0 * 4001) z400 zp HMM.out
        obtain ⟨KB, hB⟩ := (impl_BurstAt_ev s zs ((n1 % 224 : Nat) : Int) ((1 + n0 * 4001 : Nat) : Int) zn).rounds
        rw [hbu, ← m1, ← m2] at hB
        have hbr := readV_burst (p := n1 % 224) hrd HMM.out (Nat.le_of_lt zp)
        generalize burstT s (n1 % 224) (1 + n0 * 4001) = t at hB hbr hbu
        have cBu := fun w => impl_BurstAt.calls KB s (Int.tmod (n1 : Int) (wrap64 (8 * (s.size : Int)))) (wrap64 (1 + (wrap64 ((n0 : Int) * 4001)))) t true w hB
        obtain ⟨KT, hT⟩ := (impl_ReadFrame_ev t).rounds
        obtain ⟨t1, t2, t3, t4, t5, t6, ht, hfin⟩ : ∃ t1 t2 t3 t4 t5 t6, readV t = (t1, t2, t3, t4, t5, t6) ∧ (s = t ∨ (t5 = 2 ∧ t6 = false)) := by
          by_cases hst : s = t
          · exact ⟨_, _, _, _, _, _, rfl, Or.inl hst⟩
          · exact ⟨_, _, _, _, _, _, hbr hst, Or.inr ⟨rfl, rfl⟩⟩
        rw [ht] at hT
        have cT := fun w => impl_ReadFrame.calls KT t t1 t2 t3 t4 t5 t6 w hT
        have HF := Aside0.mk hfin
        clear hfin hbr hbu hT hB hR h1 h2 h3 k1 k2 k3 hrd hs hok ht m1 m2 w1 w2 zz hz HMM z400 zp zs zn cI cS cG cD1 cDU cDV HS HOK
        go_wp2_with fail
        (with_reducible refine (cR _).mono ?_)
        rintro e w104 ⟨rfl, hb⟩
        replace HB := Aside0.mk (HB.out.trans (hb.mono HB.out.size))
        replace ST := Aside0.mk (ST.out.below hb)
        clear hb
        go_upto_region 10 with (first | ((with_reducible refine gate_dst (N := 10) rfl ?_); (try (refine gate_guard (by rfl) ?_; dsimp only)); refine box_event ?hg (N := 10) ?hd (cs := #[.int .i64 0, .int .i64 0, .int .i64 0, .string (⟨#[]⟩ : ByteArray)]) (t := 49) ?hr ?_; (case hd => rfl); (case hg => rfl); (case hr => first | (go_simp; done) | (go_simp; rfl)); intro g10 hg WB hbox hb; have S_ := Aside0.mk (St.new ST.out hg hbox hb); clear ST hb hbox hg; have yb0 := cell4_0 (St.at S_.out 0 rfl); have yb1 := cell4_1 (St.at S_.out 0 rfl); have yb2 := cell4_2 (St.at S_.out 0 rfl); have yb3 := cell4_3 (St.at S_.out 0 rfl); have yf0 := blk_frozen (St.at S_.out 0 rfl) 0; have yf1 := blk_frozen (St.at S_.out 0 rfl) 1; have yf2 := blk_frozen (St.at S_.out 0 rfl) 2; have yf3 := blk_frozen (St.at S_.out 0 rfl) 3))
        clear HB
        refine St.gen (St.put S_.out) (fun WB2 ST_ => ?_)
        have ST := Aside0.mk ST_
        have HB := Aside0.mk ST_.1
        clear ST_ S_ yb0 yb1 yb2 yb3 yf0 yf1 yf2 yf3
        have sf_0 := cell4_0 (St.at ST.out 1 rfl)
        have sf_1 := cell4_1 (St.at ST.out 1 rfl)
        have sf_2 := cell4_2 (St.at ST.out 1 rfl)
        have sf_3 := cell4_3 (St.at ST.out 1 rfl)
        go_wp2_with fail
        (with_reducible refine (c1 _).mono ?_)
        rintro e w105 ⟨rfl, hb⟩
        replace HB := Aside0.mk (HB.out.trans (hb.mono HB.out.size))
        replace ST := Aside0.mk (ST.out.below hb)
        clear hb sf_0 sf_1 sf_2 sf_3
        go_upto_region 11 with (first | ((with_reducible refine gate_dst (N := 13) rfl ?_); (try (refine gate_guard (by rfl) ?_; dsimp only)); refine box_event ?hg (N := 13) ?hd (cs := #[.int .i64 0, .int .i64 0, .int .i64 0, .string (⟨#[]⟩ : ByteArray)]) (t := 49) ?hr ?_; (case hd => rfl); (case hg => rfl); (case hr => first | (go_simp; done) | (go_simp; rfl)); intro g13 hg WB hbox hb; have S_ := Aside0.mk (St.new ST.out hg hbox hb); clear ST hb hbox hg; have yb0 := cell4_0 (St.at S_.out 0 rfl); have yb1 := cell4_1 (St.at S_.out 0 rfl); have yb2 := cell4_2 (St.at S_.out 0 rfl); have yb3 := cell4_3 (St.at S_.out 0 rfl); have yf0 := blk_frozen (St.at S_.out 0 rfl) 0; have yf1 := blk_frozen (St.at S_.out 0 rfl) 1; have yf2 := blk_frozen (St.at S_.out 0 rfl) 2; have yf3 := blk_frozen (St.at S_.out 0 rfl) 3))
        clear HB
        refine St.gen (St.put S_.out) (fun WB2 ST_ => ?_)
        have ST := Aside0.mk ST_
        have HB := Aside0.mk ST_.1
        clear ST_ S_ yb0 yb1 yb2 yb3 yf0 yf1 yf2 yf3
        have sf_0 := cell4_0 (St.at ST.out 2 rfl)
        have sf_1 := cell4_1 (St.at ST.out 2 rfl)
        have sf_2 := cell4_2 (St.at ST.out 2 rfl)
        have sf_3 := cell4_3 (St.at ST.out 2 rfl)
        go_wp2_with fail
        (with_reducible refine (c2 _).mono ?_)
        rintro e w106 ⟨rfl, hb⟩
        replace HB := Aside0.mk (HB.out.trans (hb.mono HB.out.size))
        replace ST := Aside0.mk (ST.out.below hb)
        clear hb sf_0 sf_1 sf_2 sf_3
        go_upto_region 12 with (first | ((with_reducible refine gate_dst (N := 16) rfl ?_); (try (refine gate_guard (by rfl) ?_; dsimp only)); refine box_event ?hg (N := 16) ?hd (cs := #[.int .i64 0, .int .i64 0, .int .i64 0, .string (⟨#[]⟩ : ByteArray)]) (t := 49) ?hr ?_; (case hd => rfl); (case hg => rfl); (case hr => first | (go_simp; done) | (go_simp; rfl)); intro g16 hg WB hbox hb; have S_ := Aside0.mk (St.new ST.out hg hbox hb); clear ST hb hbox hg; have yb0 := cell4_0 (St.at S_.out 0 rfl); have yb1 := cell4_1 (St.at S_.out 0 rfl); have yb2 := cell4_2 (St.at S_.out 0 rfl); have yb3 := cell4_3 (St.at S_.out 0 rfl); have yf0 := blk_frozen (St.at S_.out 0 rfl) 0; have yf1 := blk_frozen (St.at S_.out 0 rfl) 1; have yf2 := blk_frozen (St.at S_.out 0 rfl) 2; have yf3 := blk_frozen (St.at S_.out 0 rfl) 3))
        clear HB
        refine St.gen (St.put S_.out) (fun WB2 ST_ => ?_)
        have ST := Aside0.mk ST_
        have HB := Aside0.mk ST_.1
        clear ST_ S_ yb0 yb1 yb2 yb3 yf0 yf1 yf2 yf3
        have sf_0 := cell4_0 (St.at ST.out 3 rfl)
        have sf_1 := cell4_1 (St.at ST.out 3 rfl)
        have sf_2 := cell4_2 (St.at ST.out 3 rfl)
        have sf_3 := cell4_3 (St.at ST.out 3 rfl)
        go_wp2_with fail
        (with_reducible refine (c3 _).mono ?_)
        rintro e w107 ⟨rfl, hb⟩
        replace HB := Aside0.mk (HB.out.trans (hb.mono HB.out.size))
        replace ST := Aside0.mk (ST.out.below hb)
        clear hb sf_0 sf_1 sf_2 sf_3
        go_upto_region 13 with (first | ((with_reducible refine gate_dst (N := 19) rfl ?_); (try (refine gate_guard (by rfl) ?_; dsimp only)); refine box_event ?hg (N := 19) ?hd (cs := #[.int .i64 0, .int .i64 0, .int .i64 0, .string (⟨#[]⟩ : ByteArray)]) (t := 49) ?hr ?_; (case hd => rfl); (case hg => rfl); (case hr => first | (go_simp; done) | (go_simp; rfl)); intro g19 hg WB hbox hb; have S_ := Aside0.mk (St.new ST.out hg hbox hb); clear ST hb hbox hg; have yb0 := cell4_0 (St.at S_.out 0 rfl); have yb1 := cell4_1 (St.at S_.out 0 rfl); have yb2 := cell4_2 (St.at S_.out 0 rfl); have yb3 := cell4_3 (St.at S_.out 0 rfl); have yf0 := blk_frozen (St.at S_.out 0 rfl) 0; have yf1 := blk_frozen (St.at S_.out 0 rfl) 1; have yf2 := blk_frozen (St.at S_.out 0 rfl) 2; have yf3 := blk_frozen (St.at S_.out 0 rfl) 3))
        clear HB
        refine St.gen (St.put S_.out) (fun WB2 ST_ => ?_)
        have ST := Aside0.mk ST_
        have HB := Aside0.mk ST_.1
        clear ST_ S_ yb0 yb1 yb2 yb3 yf0 yf1 yf2 yf3
        have sf_0 := cell4_0 (St.at ST.out 4 rfl)
        have sf_1 := cell4_1 (St.at ST.out 4 rfl)
        have sf_2 := cell4_2 (St.at ST.out 4 rfl)
        have sf_3 := cell4_3 (St.at ST.out 4 rfl)
        have sx_0 := cell4_0 (St.at ST.out 3 rfl)
        have sx_1 := cell4_1 (St.at ST.out 3 rfl)
        have sx_2 := cell4_2 (St.at ST.out 3 rfl)
        have sx_3 := cell4_3 (St.at ST.out 3 rfl)
        have sy_0 := cell4_0 (St.at ST.out 2 rfl)
        have sy_1 := cell4_1 (St.at ST.out 2 rfl)
        have sy_2 := cell4_2 (St.at ST.out 2 rfl)
        have sy_3 := cell4_3 (St.at ST.out 2 rfl)
        go_upto_region 15 with (fail)
        clear cR c1 c2 c3
        refine start_ (n := 17) (S := fun w' => True) (ds := []) #[false, false, false, false, false, false, false, false, false, false, false, false, false, false, false, false, false] (by kernel_rfl) rfl rfl trivial (fun hHeld => ?_); refine with_tabW tabF15 bitsF15 (fun HT_ HW_ => ?_)
        have ST2 := Aside0.mk (St.drew ST.out)
        clear ST HB
        generalize WB2.drew = w169 at ST2 hHeld ⊢
        have ST := ST2
        have HB := Aside0.mk ST2.out.1
        clear ST2
        refine pure_ (i := 0) (N := some 164) (v := ?_) (a' := ?_) #[true, false, false, false, false, false, false, false, false, false, false, false, false, false, false, false, false] rfl rfl (any_of HT_.out (by kernel_rfl)) (fun _ _ _ h => h) (Or.inl ⟨by rfl, ?_⟩) ?_ ?_
        rotate_left
        · intro w'
          go_simp
          with_reducible rfl
        rotate_left
        · simp only [Act.put, List.setIfInBounds_toArray, List.set_cons_zero, List.set_cons_succ, i64_w, i32_w]
          rfl
        refine pure_ (i := 1) (N := some 165) (v := ?_) (a' := ?_) #[true, true, false, false, false, false, false, false, false, false, false, false, false, false, false, false, false] rfl rfl (any_of HT_.out (by kernel_rfl)) (fun _ _ _ h => h) (Or.inl ⟨by rfl, ?_⟩) ?_ ?_
        rotate_left
        · intro w'
          go_simp
          with_reducible rfl
        rotate_left
        · simp only [Act.put, List.setIfInBounds_toArray, List.set_cons_zero, List.set_cons_succ, i64_w, i32_w]
          rfl
        refine pure_ (i := 3) (N := some 167) (v := ?_) (a' := ?_) #[true, true, false, true, false, false, false, false, false, false, false, false, false, false, false, false, false] rfl rfl (any_of HT_.out (by kernel_rfl)) (fun _ _ _ h => h) (Or.inl ⟨by rfl, ?_⟩) ?_ ?_
        rotate_left
        · intro w'
          go_simp
          with_reducible rfl
        rotate_left
        · simp only [Act.put, List.setIfInBounds_toArray, List.set_cons_zero, List.set_cons_succ, i64_w, i32_w]
          rfl
        refine pure_ (i := 4) (N := some 168) (v := ?_) (a' := ?_) #[true, true, false, true, true, false, false, false, false, false, false, false, false, false, false, false, false] rfl rfl (any_of HT_.out (by kernel_rfl)) (fun _ _ _ h => h) (Or.inl ⟨by rfl, ?_⟩) ?_ ?_
        rotate_left
        · intro w'
          go_simp
          with_reducible rfl
        rotate_left
        · simp only [Act.put, List.setIfInBounds_toArray, List.set_cons_zero, List.set_cons_succ, i64_w, i32_w]
          rfl
        refine pure_ (i := 5) (N := some 169) (v := ?_) (a' := ?_) #[true, true, false, true, true, true, false, false, false, false, false, false, false, false, false, false, false] rfl rfl (any_of HT_.out (by kernel_rfl)) (fun _ _ _ h => h) (Or.inl ⟨by rfl, ?_⟩) ?_ ?_
        rotate_left
        · intro w'
          go_simp
          with_reducible rfl
        rotate_left
        · simp only [Act.put, List.setIfInBounds_toArray, List.set_cons_zero, List.set_cons_succ, i64_w, i32_w]
          rfl
        refine pure_ (i := 7) (N := some 171) (v := ?_) (a' := ?_) #[true, true, false, true, true, true, false, true, false, false, false, false, false, false, false, false, false] rfl rfl (any_of HT_.out (by kernel_rfl)) (fun _ _ _ h => h) (Or.inl ⟨by rfl, ?_⟩) ?_ ?_
        rotate_left
        · intro w'
          go_simp
          with_reducible rfl
        rotate_left
        · simp only [Act.put, List.setIfInBounds_toArray, List.set_cons_zero, List.set_cons_succ, i64_w, i32_w]
          rfl
        refine one_ (i := 2) (N := some 166) #[true, true, true, true, true, true, false, true, false, false, false, false, false, false, false, false, false] rfl rfl (one_of HT_.out (by kernel_rfl)) (by decide) (fun K hK => ?_)
        refine goes_ Try.func22 (by kernel_rfl) rfl #[.slice A1 l1.length c1] (by rfl) rfl rfl (by (try simp only [List.map_toArray, List.map_cons, List.map_nil]); first | done | rfl | (simp only [List.length_drop, List.length_take]; rfl)) ?_
        with_reducible refine (laws_numberOf.calls KN1 _ _ l1 (n1 : Int) _ ?side1 ?side2 hN1.out).mono ?_
        (case side1 => repeat (first | exact (Kd.C_below HR1.out HB.out) | (with_reducible refine Kd.C_alloc ?_ _) | (with_reducible refine Kd.C_drewN ?_ _) | (with_reducible refine Kd.C_drew ?_)))
        (case side2 => exact HC1.out)
        rintro e w' ⟨rfl, ⟨nd, rfl⟩⟩
        refine ⟨_, rfl, ?_⟩
        refine hK.out _ _ trivial (fun hHeld => ?_)
        clear hK K
        refine norm_ (a' := ?_) ?_ ?_
        rotate_left
        · show Act.put _ (some 166) _ = _
          simp only [Act.put, List.setIfInBounds_toArray, List.set_cons_zero, List.set_cons_succ, i64_w, i32_w]
          rfl
        refine pure_ (i := 6) (N := some 170) (v := ?_) (a' := ?_) #[true, true, true, true, true, true, true, true, false, false, false, false, false, false, false, false, false] rfl rfl (any_of HT_.out (by kernel_rfl)) (fun _ _ _ h => h) (Or.inl ⟨by rfl, ?_⟩) ?_ ?_
        rotate_left
        · intro w'
          go_simp
          with_reducible rfl
        rotate_left
        · simp only [Act.put, List.setIfInBounds_toArray, List.set_cons_zero, List.set_cons_succ, i64_w, i32_w]
          rfl
        refine one_ (i := 8) (N := some 172) #[true, true, true, true, true, true, true, true, true, false, false, false, false, false, false, false, false] rfl rfl (one_of HT_.out (by kernel_rfl)) (by decide) (fun K hK => ?_)
        refine goes_ Try.func22 (by kernel_rfl) rfl #[.slice A0 l0.length c0] (by rfl) rfl rfl (by (try simp only [List.map_toArray, List.map_cons, List.map_nil]); first | done | rfl | (simp only [List.length_drop, List.length_take]; rfl)) ?_
        with_reducible refine (laws_numberOf.calls KN0 _ _ l0 (n0 : Int) _ ?side1 ?side2 hN0.out).mono ?_
        (case side1 => repeat (first | exact (Kd.C_below HR0.out HB.out) | (with_reducible refine Kd.C_alloc ?_ _) | (with_reducible refine Kd.C_drewN ?_ _) | (with_reducible refine Kd.C_drew ?_)))
        (case side2 => exact HC0.out)
        rintro e w' ⟨rfl, ⟨nd, rfl⟩⟩
        refine ⟨_, rfl, ?_⟩
        refine hK.out _ _ trivial (fun hHeld => ?_)
        clear hK K
        refine norm_ (a' := ?_) ?_ ?_
        rotate_left
        · show Act.put _ (some 172) _ = _
          simp only [Act.put, List.setIfInBounds_toArray, List.set_cons_zero, List.set_cons_succ, i64_w, i32_w]
          rfl
        refine pure_ (i := 9) (N := some 173) (v := ?_) (a' := ?_) #[true, true, true, true, true, true, true, true, true, true, false, false, false, false, false, false, false] rfl rfl (any_of HT_.out (by kernel_rfl)) (fun _ _ _ h => h) (Or.inl ⟨by rfl, ?_⟩) ?_ ?_
        rotate_left
        · intro w'
          go_simp
          with_reducible rfl
        rotate_left
        · simp only [Act.put, List.setIfInBounds_toArray, List.set_cons_zero, List.set_cons_succ, i64_w, i32_w]
          rfl
        refine pure_ (i := 10) (N := some 174) (v := ?_) (a' := ?_) #[true, true, true, true, true, true, true, true, true, true, true, false, false, false, false, false, false] rfl rfl (any_of HT_.out (by kernel_rfl)) (fun _ _ _ h => h) (Or.inl ⟨by rfl, ?_⟩) ?_ ?_
        rotate_left
        · intro w'
          go_simp
          with_reducible rfl
        rotate_left
        · simp only [Act.put, List.setIfInBounds_toArray, List.set_cons_zero, List.set_cons_succ, i64_w, i32_w]
          rfl
        refine one_ (i := 11) (N := some 175) #[true, true, true, true, true, true, true, true, true, true, true, true, false, false, false, false, false] rfl rfl (one_of HT_.out (by kernel_rfl)) (by decide) (fun K hK => ?_)
        refine goes_ Try.func54 (by kernel_rfl) rfl #[.string s, .int .i64 (Int.tmod (n1 : Int) (wrap64 (8 * (s.size : Int)))), .int .i64 (wrap64 (1 + (wrap64 ((n0 : Int) * 4001))))] (by rfl) rfl rfl (by (try simp only [List.map_toArray, List.map_cons, List.map_nil]); first | done | rfl | (simp only [List.length_drop, List.length_take]; rfl)) ?_
        with_reducible refine (cBu _).mono ?_
        rintro e w170 ⟨rfl, hb⟩
        refine ⟨_, rfl, ?_⟩
        have ST2 := Aside0.mk (St.below (St.drewN (St.drewN ST.out _) _) hb)
        clear ST HB hb
        have ST := ST2
        have HB := Aside0.mk ST2.out.1
        clear ST2
        refine hK.out _ _ trivial (fun hHeld => ?_)
        clear hK K
        refine norm_ (a' := ?_) ?_ ?_
        rotate_left
        · show Act.put _ (some 175) _ = _
          simp only [Act.put, List.setIfInBounds_toArray, List.set_cons_zero, List.set_cons_succ, i64_w, i32_w]
          rfl
        refine pure_ (i := 12) (N := some 163) (v := ?_) (a' := ?_) #[true, true, true, true, true, true, true, true, true, true, true, true, true, false, false, false, false] rfl rfl (any_of HT_.out (by kernel_rfl)) (fun _ _ _ h => h) (Or.inl ⟨by rfl, ?_⟩) ?_ ?_
        rotate_left
        · intro w'
          go_simp
          with_reducible rfl
        rotate_left
        · simp only [Act.put, List.setIfInBounds_toArray, List.set_cons_zero, List.set_cons_succ, i64_w, i32_w]
          rfl
        refine pure_ (i := 13) (N := some 176) (v := ?_) (a' := ?_) #[true, true, true, true, true, true, true, true, true, true, true, true, true, true, false, false, false] rfl rfl (any_of HT_.out (by kernel_rfl)) (fun _ _ _ h => h) (Or.inl ⟨by rfl, ?_⟩) ?_ ?_
        rotate_left
        · intro w'
          go_simp
          with_reducible rfl
        rotate_left
        · simp only [Act.put, List.setIfInBounds_toArray, List.set_cons_zero, List.set_cons_succ, i64_w, i32_w]
          rfl
        refine pure_ (i := 14) (N := some 177) (v := ?_) (a' := ?_) #[true, true, true, true, true, true, true, true, true, true, true, true, true, true, true, false, false] rfl rfl (any_of HT_.out (by kernel_rfl)) (fun _ _ _ h => h) (Or.inl ⟨by rfl, ?_⟩) ?_ ?_
        rotate_left
        · intro w'
          go_simp
          with_reducible rfl
        rotate_left
        · simp only [Act.put, List.setIfInBounds_toArray, List.set_cons_zero, List.set_cons_succ, i64_w, i32_w]
          rfl
        refine pure_ (i := 15) (N := some 22) (v := ?_) (a' := ?_) #[true, true, true, true, true, true, true, true, true, true, true, true, true, true, true, true, false] rfl rfl (any_of HT_.out (by kernel_rfl)) (fun _ _ _ h => h) (Or.inl ⟨by rfl, ?_⟩) ?_ ?_
        rotate_left
        · intro w'
          go_simp
          with_reducible rfl
        rotate_left
        · simp only [Act.put, List.setIfInBounds_toArray, List.set_cons_zero, List.set_cons_succ, i64_w, i32_w]
          rfl
        refine pure_ (i := 16) (N := some 23) (v := ?_) (a' := ?_) #[true, true, true, true, true, true, true, true, true, true, true, true, true, true, true, true, true] rfl rfl (any_of HT_.out (by kernel_rfl)) (fun _ _ _ h => h) (Or.inl ⟨by rfl, ?_⟩) ?_ ?_
        rotate_left
        · intro w'
          go_simp
          with_reducible rfl
        rotate_left
        · simp only [Act.put, List.setIfInBounds_toArray, List.set_cons_zero, List.set_cons_succ, i64_w, i32_w]
          rfl
        refine done_ (done_of HT_.out (by kernel_rfl)) ?_
        go_wp2_with fail
        (with_reducible refine (cT _).mono ?_)
        rintro e w108 ⟨rfl, hb⟩
        replace HB := Aside0.mk (HB.out.trans (hb.mono HB.out.size))
        replace ST := Aside0.mk (ST.out.below hb)
        clear hb sf_0 sf_1 sf_2 sf_3 sx_0 sx_1 sx_2 sx_3 sy_0 sy_1 sy_2 sy_3
        go_upto_region 17 with (first | ((with_reducible refine gate_dst (N := 24) rfl ?_); (try (refine gate_guard (by rfl) ?_; dsimp only)); refine box_event ?hg (N := 24) ?hd (cs := #[.int .i64 0, .int .i64 0, .int .i64 0, .string (⟨#[]⟩ : ByteArray)]) (t := 49) ?hr ?_; (case hd => rfl); (case hg => rfl); (case hr => first | (go_simp; done) | (go_simp; rfl)); intro g24 hg WB hbox hb; have S_ := Aside0.mk (St.new ST.out hg hbox hb); clear ST hb hbox hg; have yb0 := cell4_0 (St.at S_.out 0 rfl); have yb1 := cell4_1 (St.at S_.out 0 rfl); have yb2 := cell4_2 (St.at S_.out 0 rfl); have yb3 := cell4_3 (St.at S_.out 0 rfl); have yf0 := blk_frozen (St.at S_.out 0 rfl) 0; have yf1 := blk_frozen (St.at S_.out 0 rfl) 1; have yf2 := blk_frozen (St.at S_.out 0 rfl) 2; have yf3 := blk_frozen (St.at S_.out 0 rfl) 3))
        clear HB
        refine St.gen (St.put S_.out) (fun WB2 ST_ => ?_)
        have ST := Aside0.mk ST_
        have HB := Aside0.mk ST_.1
        clear ST_ S_ yb0 yb1 yb2 yb3 yf0 yf1 yf2 yf3
        clear cT cBu
        rcases HF.out with hst | ⟨rfl, rfl⟩
        · subst hst
          go_wp2
          go_meet
          exact ⟨ST.out.nil⟩
        · by_cases hst : s = t
          · subst hst
            go_wp2
            go_meet
            exact ⟨ST.out.nil⟩
          · have f2 : decide (t.toList = s.toList) = false := decide_eq_false (fun h => hst (bytes_ext h).symm)
            have f3 : (t.toList == s.toList) = false := by
              rw [beq_eq_false_iff_ne]; exact fun h => hst (bytes_ext h).symm
            have f4 : (t.toList != s.toList) = true := by rw [bne, f3]; rfl
            go_wp2
            go_meet
            exact ⟨ST.out.nil⟩
  case rest =>
    clear HB ST cI cS cG cD1 HS HOK x1
    have ST := hcut
    clear hcut
    have HB := Aside0.mk ST.out.1
    obtain ⟨KRU, hRU⟩ := (impl_ReadFrame_ev u).rounds
    obtain ⟨KSU, hSU⟩ := (spec_ReadFrame_ev u).rounds
    obtain ⟨KRV, hRV⟩ := (impl_CheckFrame_ev v vx vy vz).rounds
    obtain ⟨KSV, hSV⟩ := (spec_CheckFrame_ev v vx vy vz).rounds
    obtain ⟨r1, r2, r3, r4, r5, is, hr⟩ : ∃ r1 r2 r3 r4 r5 is, readV u = (r1, r2, r3, r4, r5, is) := ⟨_, _, _, _, _, _, rfl⟩
    obtain ⟨q1, q2, q3, q4, q5, one, hq⟩ : ∃ r1 r2 r3 r4 r5 is, checkV v vx vy vz = (r1, r2, r3, r4, r5, is) := ⟨_, _, _, _, _, _, rfl⟩
    rw [hr] at hRU hSU
    rw [hq] at hRV hSV
    have cRU := fun w => impl_ReadFrame.calls KRU u r1 r2 r3 r4 r5 is w hRU
    have cSU := fun w => spec_ReadFrame.calls KSU u r1 r2 r3 r4 r5 is w hSU
    have cRV := fun w => impl_CheckFrame.calls KRV v vx vy vz q1 q2 q3 q4 q5 one w hRV
    have cSV := fun w => spec_CheckFrame.calls KSV v vx vy vz q1 q2 q3 q4 q5 one w hSV
    have e1 : (is != is) = false := by simp
    have e2 : (one != one) = false := by simp
    have HQ := Aside0.mk hr
    clear hRU hSU hRV hSV hr hq
    go_wp2_with fail
    refine (cDU _ (Kd.C_below HR1.out HB.out)).mono ?_
    rintro ee wu ⟨rfl, hb⟩
    replace HB := Aside0.mk (HB.out.trans (hb.mono HB.out.size))
    replace ST := Aside0.mk (ST.out.below hb)
    clear hb
    go_wp2_with fail
    (with_reducible refine (cRU _).mono ?_)
    rintro e w109 ⟨rfl, hb⟩
    replace HB := Aside0.mk (HB.out.trans (hb.mono HB.out.size))
    replace ST := Aside0.mk (ST.out.below hb)
    clear hb
    go_upto_region 21 with (first | ((with_reducible refine gate_dst (N := 27) rfl ?_); (try (refine gate_guard (by rfl) ?_; dsimp only)); refine box_event ?hg (N := 27) ?hd (cs := #[.int .i64 0, .int .i64 0, .int .i64 0, .string (⟨#[]⟩ : ByteArray)]) (t := 49) ?hr ?_; (case hd => rfl); (case hg => rfl); (case hr => first | (go_simp; done) | (go_simp; rfl)); intro g27 hg WB hbox hb; have S_ := Aside0.mk (St.new ST.out hg hbox hb); clear ST hb hbox hg; have yb0 := cell4_0 (St.at S_.out 0 rfl); have yb1 := cell4_1 (St.at S_.out 0 rfl); have yb2 := cell4_2 (St.at S_.out 0 rfl); have yb3 := cell4_3 (St.at S_.out 0 rfl); have yf0 := blk_frozen (St.at S_.out 0 rfl) 0; have yf1 := blk_frozen (St.at S_.out 0 rfl) 1; have yf2 := blk_frozen (St.at S_.out 0 rfl) 2; have yf3 := blk_frozen (St.at S_.out 0 rfl) 3))
    clear HB
    refine St.gen (St.put S_.out) (fun WB2 ST_ => ?_)
    have ST := Aside0.mk ST_
    have HB := Aside0.mk ST_.1
    clear ST_ S_ yb0 yb1 yb2 yb3 yf0 yf1 yf2 yf3
    go_wp2_with fail
    (with_reducible refine (cSU _).mono ?_)
    rintro e w110 ⟨rfl, hb⟩
    replace HB := Aside0.mk (HB.out.trans (hb.mono HB.out.size))
    replace ST := Aside0.mk (ST.out.below hb)
    clear hb
    go_upto_region 22 with (first | ((with_reducible refine gate_dst (N := 30) rfl ?_); (try (refine gate_guard (by rfl) ?_; dsimp only)); refine box_event ?hg (N := 30) ?hd (cs := #[.int .i64 0, .int .i64 0, .int .i64 0, .string (⟨#[]⟩ : ByteArray)]) (t := 49) ?hr ?_; (case hd => rfl); (case hg => rfl); (case hr => first | (go_simp; done) | (go_simp; rfl)); intro g30 hg WB hbox hb; have S_ := Aside0.mk (St.new ST.out hg hbox hb); clear ST hb hbox hg; have yb0 := cell4_0 (St.at S_.out 0 rfl); have yb1 := cell4_1 (St.at S_.out 0 rfl); have yb2 := cell4_2 (St.at S_.out 0 rfl); have yb3 := cell4_3 (St.at S_.out 0 rfl); have yf0 := blk_frozen (St.at S_.out 0 rfl) 0; have yf1 := blk_frozen (St.at S_.out 0 rfl) 1; have yf2 := blk_frozen (St.at S_.out 0 rfl) 2; have yf3 := blk_frozen (St.at S_.out 0 rfl) 3))
    clear HB
    refine St.gen (St.put S_.out) (fun WB2 ST_ => ?_)
    have ST := Aside0.mk ST_
    have HB := Aside0.mk ST_.1
    clear ST_ S_ yb0 yb1 yb2 yb3 yf0 yf1 yf2 yf3
    go_wp2_with fail
    refine (cDV _ (Kd.C_below HR1.out HB.out)).mono ?_
    rintro ee wv ⟨rfl, hb⟩
    replace HB := Aside0.mk (HB.out.trans (hb.mono HB.out.size))
    replace ST := Aside0.mk (ST.out.below hb)
    clear hb
    go_wp2_with fail
    (with_reducible refine (cRV _).mono ?_)
    rintro e w111 ⟨rfl, hb⟩
    replace HB := Aside0.mk (HB.out.trans (hb.mono HB.out.size))
    replace ST := Aside0.mk (ST.out.below hb)
    clear hb
    go_upto_region 24 with (first | ((with_reducible refine gate_dst (N := 37) rfl ?_); (try (refine gate_guard (by rfl) ?_; dsimp only)); refine box_event ?hg (N := 37) ?hd (cs := #[.int .i64 0, .int .i64 0, .int .i64 0, .string (⟨#[]⟩ : ByteArray)]) (t := 49) ?hr ?_; (case hd => rfl); (case hg => rfl); (case hr => first | (go_simp; done) | (go_simp; rfl)); intro g37 hg WB hbox hb; have S_ := Aside0.mk (St.new ST.out hg hbox hb); clear ST hb hbox hg; have yb0 := cell4_0 (St.at S_.out 0 rfl); have yb1 := cell4_1 (St.at S_.out 0 rfl); have yb2 := cell4_2 (St.at S_.out 0 rfl); have yb3 := cell4_3 (St.at S_.out 0 rfl); have yf0 := blk_frozen (St.at S_.out 0 rfl) 0; have yf1 := blk_frozen (St.at S_.out 0 rfl) 1; have yf2 := blk_frozen (St.at S_.out 0 rfl) 2; have yf3 := blk_frozen (St.at S_.out 0 rfl) 3))
    clear HB
    refine St.gen (St.put S_.out) (fun WB2 ST_ => ?_)
    have ST := Aside0.mk ST_
    have HB := Aside0.mk ST_.1
    clear ST_ S_ yb0 yb1 yb2 yb3 yf0 yf1 yf2 yf3
    go_wp2_with fail
    (with_reducible refine (cSV _).mono ?_)
    rintro e w112 ⟨rfl, hb⟩
    replace HB := Aside0.mk (HB.out.trans (hb.mono HB.out.size))
    replace ST := Aside0.mk (ST.out.below hb)
    clear hb
    go_upto_region 25 with (first | ((with_reducible refine gate_dst (N := 40) rfl ?_); (try (refine gate_guard (by rfl) ?_; dsimp only)); refine box_event ?hg (N := 40) ?hd (cs := #[.int .i64 0, .int .i64 0, .int .i64 0, .string (⟨#[]⟩ : ByteArray)]) (t := 49) ?hr ?_; (case hd => rfl); (case hg => rfl); (case hr => first | (go_simp; done) | (go_simp; rfl)); intro g40 hg WB hbox hb; have S_ := Aside0.mk (St.new ST.out hg hbox hb); clear ST hb hbox hg; have yb0 := cell4_0 (St.at S_.out 0 rfl); have yb1 := cell4_1 (St.at S_.out 0 rfl); have yb2 := cell4_2 (St.at S_.out 0 rfl); have yb3 := cell4_3 (St.at S_.out 0 rfl); have yf0 := blk_frozen (St.at S_.out 0 rfl) 0; have yf1 := blk_frozen (St.at S_.out 0 rfl) 1; have yf2 := blk_frozen (St.at S_.out 0 rfl) 2; have yf3 := blk_frozen (St.at S_.out 0 rfl) 3))
    clear HB
    refine St.gen (St.put S_.out) (fun WB2 ST_ => ?_)
    have ST := Aside0.mk ST_
    have HB := Aside0.mk ST_.1
    clear ST_ S_ yb0 yb1 yb2 yb3 yf0 yf1 yf2 yf3
    have sa_0 := cell4_0 (St.at ST.out 3 rfl)
    have sa_1 := cell4_1 (St.at ST.out 3 rfl)
    have sa_2 := cell4_2 (St.at ST.out 3 rfl)
    have sa_3 := cell4_3 (St.at ST.out 3 rfl)
    have sb_0 := cell4_0 (St.at ST.out 2 rfl)
    have sb_1 := cell4_1 (St.at ST.out 2 rfl)
    have sb_2 := cell4_2 (St.at ST.out 2 rfl)
    have sb_3 := cell4_3 (St.at ST.out 2 rfl)
    have sc_0 := cell4_0 (St.at ST.out 1 rfl)
    have sc_1 := cell4_1 (St.at ST.out 1 rfl)
    have sc_2 := cell4_2 (St.at ST.out 1 rfl)
    have sc_3 := cell4_3 (St.at ST.out 1 rfl)
    have sd_0 := cell4_0 (St.at ST.out 0 rfl)
    have sd_1 := cell4_1 (St.at ST.out 0 rfl)
    have sd_2 := cell4_2 (St.at ST.out 0 rfl)
    have sd_3 := cell4_3 (St.at ST.out 0 rfl)
    go_upto_region 27 with (fail)
    as_aux_lemma =>
      clear cRU cSU cRV cSV cDU cDV e1 e2
      cases is with
      | false =>
        go_wp2
        go_ret
        exact ⟨rfl, HB.out⟩
      | true =>
        obtain ⟨_, _, hg, hf, _⟩ := readV_ok HQ.out
        obtain ⟨KF, hF⟩ := (impl_FrameBytes_ev r1 r2 r3 r4).rounds
        rw [if_pos hg, hf] at hF
        have cF := fun w => impl_FrameBytes.calls KF r1 r2 r3 r4 u true w hF
        clear hF hf hg
        have sa_0 := cell4_0 (St.at ST.out 3 rfl)
        have sa_1 := cell4_1 (St.at ST.out 3 rfl)
        have sa_2 := cell4_2 (St.at ST.out 3 rfl)
        have sa_3 := cell4_3 (St.at ST.out 3 rfl)
        go_wp2_with fail
        (with_reducible refine (cF _).mono ?_)
        rintro e w113 ⟨rfl, hb⟩
        replace HB := Aside0.mk (HB.out.trans (hb.mono HB.out.size))
        replace ST := Aside0.mk (ST.out.below hb)
        clear hb sa_0 sa_1 sa_2 sa_3 sb_0 sb_1 sb_2 sb_3 sc_0 sc_1 sc_2 sc_3 sd_0 sd_1 sd_2 sd_3
        go_wp2
        go_ret
        exact ⟨by first | rfl | simp, HB.out⟩

end Go.Proofs.Ytncgojfhaagkkaa.Pure
