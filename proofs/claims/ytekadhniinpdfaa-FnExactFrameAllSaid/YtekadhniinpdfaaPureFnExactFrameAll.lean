/- FrameAll answers as the reference's FrameAll does, for all numbers and texts, in memory of its own. No conditions beyond the row's own. -/
import Derived.Test.YtekadhniinpdfaaMFnExactFrameAllx5
import Derived.Test.YtekadhniinpdfaaBit
import Derived.Test.YtekadhniinpdfaaCrc
set_option linter.unusedVariables false
set_option linter.unusedSimpArgs false
namespace Go.Proofs.Ytekadhniinpdfaa.Pure
open Go.RowKit Go.Proofs.Ytekadhniinpdfaa Go.Proofs.Ytekadhniinpdfaa.MFnExactFrameAll Go.Proofs.YtekadhniinpdfaaW.PrintWords Go.Proofs.YtekadhniinpdfaaW.PrintLast Go.Proofs.Ytekadhniinpdfaa.Bit

theorem impl_within_eq (a b c : Int) : impl_within.f a b c = some (decide (b ≤ a ∧ a ≤ c)) := by
  unfold impl_within.f
  by_cases h : a ≥ b
  · rw [if_pos h]; congr 1; simp [show b ≤ a from h]
  · rw [if_neg h]; congr 1; simp; omega

theorem rdOf_nat {α : Type} (d : α) (l : List α) (i : Nat) (h : i < l.length) : rdOf d l (i : Int) = l[i] := by
  unfold rdOf
  simp [List.getD_eq_getElem?_getD, List.getElem?_eq_getElem h]
theorem wrap_succ2 (i : Nat) (h : i < 9223372036854775807) : wrap64 ((i : Int) + 1) = ((i + 1 : Nat) : Int) := by rw [wrap_id (by omega) (by omega)]; omega

theorem bytes_ext {a b : ByteArray} (h : a.toList = b.toList) : a = b := by
  rw [Go.ByteArray.toList_eq, Go.ByteArray.toList_eq] at h
  cases a; cases b
  simp only [ByteArray.mk.injEq]
  exact Array.toList_inj.1 h
theorem laws_eqStringS_l0 (l m : List ByteArray) (hlm : l.length = m.length) (hl : l.length ≤ 140737488351232) : ∀ d i : Nat, i + d = l.length → Ev (fun k => laws_eqStringS.l0 k l m (i : Int)) (decide (l.drop i = m.drop i)) := by
  intro d
  induction d with
  | zero =>
    intro i hi
    obtain rfl : i = l.length := by omega
    have e : decide (l.drop l.length = m.drop l.length) = true := by
      have e2 : m.drop l.length = [] := by rw [hlm, List.drop_length]
      rw [e2, List.drop_length]; rfl
    rw [e]
    exact Ev.step (f := fun _ => some true) (fun k => by simp only [laws_eqStringS.l0]; rw [if_neg (by omega)]) (Ev.now _)
  | succ d ih =>
    intro i hi
    have hlt : i < l.length := by omega
    have hlt2 : i < m.length := by omega
    rw [List.drop_eq_getElem_cons hlt, List.drop_eq_getElem_cons hlt2]
    by_cases e : l[i] = m[i]
    · have : decide (l[i] :: l.drop (i + 1) = m[i] :: m.drop (i + 1)) = decide (l.drop (i + 1) = m.drop (i + 1)) := by simp only [List.cons.injEq, e, true_and]
      rw [this]
      refine Ev.step (f := fun k => laws_eqStringS.l0 k l m ((i + 1 : Nat) : Int)) (fun k => ?_) (ih (i + 1) (by omega))
      simp only [laws_eqStringS.l0, rdOf_nat _ l i hlt, rdOf_nat _ m i hlt2, wrap_succ2 i (by omega)]
      rw [if_pos (by omega), if_pos (by omega), if_pos (by omega), if_pos (by rw [e])]
    · have : decide (l[i] :: l.drop (i + 1) = m[i] :: m.drop (i + 1)) = false := by simp only [List.cons.injEq, e, false_and, decide_false]
      rw [this]
      refine Ev.step (f := fun k => some false) (fun k => ?_) (Ev.now _)
      simp only [laws_eqStringS.l0, rdOf_nat _ l i hlt, rdOf_nat _ m i hlt2, wrap_succ2 i (by omega)]
      rw [if_pos (by omega), if_pos (by omega), if_pos (by omega), if_neg (fun h => e (bytes_ext h))]
theorem laws_eqStringS_ev (l m : List ByteArray) (hl : l.length ≤ 140737488351232) : Ev (fun k => laws_eqStringS.f k l m) (decide (l = m)) := by
  unfold laws_eqStringS.f
  by_cases h : l.length = m.length
  · simp only [if_pos (show (l.length : Int) = (m.length : Int) by omega)]
    exact laws_eqStringS_l0 l m h hl l.length 0 (by omega)
  · simp only [if_neg (show ¬ (l.length : Int) = (m.length : Int) by omega)]
    have : decide (l = m) = false := by simp only [decide_eq_false_iff_not]; rintro rfl; exact h rfl
    rw [this]
    exact Ev.now _

theorem spec_l1In_eq (a b c : Int) : spec_l1In.f a b c = some (decide (b ≤ a ∧ a ≤ c)) := by
  unfold spec_l1In.f
  by_cases h : a ≥ b
  · rw [if_pos h]; congr 1; simp [show b ≤ a from h]
  · rw [if_neg h]; congr 1; simp; omega

/-- The pieces of a text: so many at the most. -/
def splitL : Nat → ByteArray → List ByteArray
  | 0, s => [s]
  | f + 1, s => if 16 < s.size then s.extract 0 16 :: splitL f (s.extract 16 s.size) else [s]
theorem splitL_length : ∀ f s, (splitL f s).length ≤ f + 1
  | 0, _ => by simp [splitL]
  | f + 1, s => by
    unfold splitL
    have := splitL_length f (s.extract 16 s.size)
    split <;> simp <;> omega
/-- What SplitBody answers. -/
def splitV (s : ByteArray) : List ByteArray × Bool := if 1 ≤ s.size ∧ s.size ≤ 160 then (splitL 10 s, true) else ([], false)
theorem splitV_length (s : ByteArray) : (splitV s).1.length ≤ 11 := by
  unfold splitV
  split
  · exact splitL_length 10 s
  · simp

theorem spec_SplitBody_l0 : ∀ (f : Nat) (s : ByteArray) (acc : List ByteArray), s.size ≤ 16 * f → acc.length + f ≤ 100 → Ev (fun k => spec_SplitBody.l0 k s acc) (acc ++ splitL f s, true) := by
  intro f
  induction f with
  | zero =>
    intro s acc hs ha
    exact Ev.step (f := fun _ => some (acc ++ [s], true)) (fun k => by simp only [spec_SplitBody.l0]; rw [if_neg (by omega), if_pos (by omega)]) (Ev.now _)
  | succ f ih =>
    intro s acc hs ha
    unfold splitL
    by_cases h : 16 < s.size
    · rw [if_pos h]
      have := ih (s.extract 16 s.size) (acc ++ [s.extract 0 16]) (by simp only [ByteArray.size_extract]; omega) (by simp; omega)
      rw [List.append_assoc] at this
      refine Ev.step (f := fun k => spec_SplitBody.l0 k (s.extract 16 s.size) (acc ++ [s.extract 0 16])) (fun k => ?_) this
      simp only [spec_SplitBody.l0]
      rw [if_pos (by omega), if_pos (by omega), if_pos (by omega), if_pos (by omega)]
    · rw [if_neg h]
      exact Ev.step (f := fun _ => some (acc ++ [s], true)) (fun k => by simp only [spec_SplitBody.l0]; rw [if_neg (by omega), if_pos (by omega)]) (Ev.now _)
theorem spec_SplitBody_ev (s : ByteArray) : Ev (fun k => spec_SplitBody.f k s) (splitV s) := by
  unfold spec_SplitBody.f splitV
  simp only [spec_l1In_eq, Option.bind_some]
  by_cases h : 1 ≤ s.size ∧ s.size ≤ 160
  · have z : (1 : Int) ≤ (s.size : Int) ∧ (s.size : Int) ≤ 160 := by omega
    rw [if_pos h]
    simp only [decide_eq_true z, if_true]
    have := spec_SplitBody_l0 10 s [] (by omega) (by simp)
    simpa using this
  · have z : ¬ ((1 : Int) ≤ (s.size : Int) ∧ (s.size : Int) ≤ 160) := by omega
    rw [if_neg h]
    simp only [decide_eq_false z]
    exact Ev.now _

/-- Is a number of 32 bits? -/
def isS (a : Int) : Bool := decide (0 ≤ a ∧ a ≤ 4294967295)
theorem isS_nat {a : Int} (h : isS a = true) : ∃ n : Nat, a = (n : Int) ∧ n < 2 ^ 32 := by
  simp only [isS, decide_eq_true_eq] at h
  exact ⟨a.toNat, by omega, by omega⟩
def isL (a : Int) : Bool := decide (0 ≤ a ∧ a ≤ 400)
theorem isL_nat {a : Int} (h : isL a = true) : ∃ n : Nat, a = (n : Int) ∧ n ≤ 400 := by
  simp only [isL, decide_eq_true_eq] at h
  exact ⟨a.toNat, by omega, by omega⟩

theorem son_append (xs ys : List Int) : strOfNums (xs ++ ys) = strOfNums xs ++ strOfNums ys := by
  apply ByteArray.ext
  rw [ByteArray.data_append]
  simp [strOfNums]
theorem son_bytesOf (s : ByteArray) : strOfNums (bytesOf s) = s := by
  apply ByteArray.ext
  apply Array.toList_inj.1
  show (List.map (fun n : Int => UInt8.ofNat n.toNat) (bytesOf s)) = s.data.toList
  unfold bytesOf
  rw [List.map_map]
  conv => rhs; rw [← List.map_id s.data.toList]
  refine List.map_congr_left fun b _ => ?_
  show UInt8.ofNat ((b.toNat : Int).toNat) = b
  rw [Int.toNat_natCast]
  exact UInt8.ofNat_toNat
theorem son_size (xs : List Int) : (strOfNums xs).size = xs.length := by simp [strOfNums, ByteArray.size]
/-- The first 24 bytes of a frame. -/
def hdL (k a e : Int) (b : ByteArray) : List Int := [k % 256, a / 256 % 256, a % 256, e / 256 % 256, e % 256, (b.size : Int) % 256] ++ bytesOf b ++ List.replicate (18 - b.size) 0
def lowL (n : Int) : List Int := [n % 256, n / 256 % 256, n / 65536 % 256, n / 16777216 % 256]
theorem lowL_length (n : Int) : (lowL n).length = 4 := rfl
theorem hdL_length (k a e : Int) (b : ByteArray) (h : b.size ≤ 16) : (hdL k a e b).length = 24 := by
  unfold hdL
  simp only [List.length_append, List.length_cons, List.length_nil, bytesOf_length, List.length_replicate]
  omega
/-- A frame's bytes. -/
def frB (k a e : Int) (b : ByteArray) : ByteArray := strOfNums (hdL k a e b ++ lowL ((Crc.sumL 0 (Crc.bl (strOfNums (hdL k a e b))) : Nat) : Int))
theorem frB_size (k a e : Int) (b : ByteArray) (h : b.size ≤ 16) : (frB k a e b).size = 28 := by
  unfold frB
  rw [son_size, List.length_append, hdL_length k a e b h]; rfl
/-- Is a frame good? -/
def goodF (k a e : Int) (b : ByteArray) : Bool := decide (1 ≤ k ∧ k ≤ 255) && (decide (0 ≤ a ∧ a ≤ 60000) && (decide (0 ≤ e ∧ e ≤ 60000) && decide (b.size ≤ 16)))
theorem goodF_bd {k a e : Int} {b : ByteArray} (h : goodF k a e b = true) : 1 ≤ k ∧ k ≤ 255 ∧ 0 ≤ a ∧ a ≤ 60000 ∧ 0 ≤ e ∧ e ≤ 60000 ∧ b.size ≤ 16 := by
  simp only [goodF, Bool.and_eq_true, decide_eq_true_eq] at h
  obtain ⟨⟨h1, h2⟩, ⟨h3, h4⟩, ⟨h5, h6⟩, h7⟩ := h
  exact ⟨h1, h2, h3, h4, h5, h6, h7⟩
theorem size_dec (b : ByteArray) : decide ((b.size : Int) ≤ 16) = decide (b.size ≤ 16) := decide_eq_decide.2 (by omega)

theorem spec_GoodFrame_eq (k a e : Int) (b : ByteArray) : spec_GoodFrame.f k a e b = some (goodF k a e b) := by
  unfold spec_GoodFrame.f goodF
  simp only [spec_l1In_eq, Option.bind_some, size_dec]
  cases decide (1 ≤ k ∧ k ≤ 255) <;> cases decide (0 ≤ a ∧ a ≤ 60000) <;> cases decide (0 ≤ e ∧ e ≤ 60000) <;> rfl

theorem spec_l5Byte_l0 : ∀ (n x i : Nat), x < 2 ^ 32 → n + i = 8 → Ev (fun k => spec_l5Byte.l0 k (x : Int) (i : Int)) ((Crc.shN n x : Nat) : Int) := by
  intro n
  induction n with
  | zero =>
    intro x i _ hi
    obtain rfl : i = 8 := by omega
    exact Ev.step (f := fun _ => some ((x : Nat) : Int)) (fun k => by simp only [spec_l5Byte.l0]; rw [if_neg (by omega)]) (Ev.now _)
  | succ n ih =>
    intro x i hx hi
    have e1 : wrap64 ((i : Int) + 1) = ((i + 1 : Nat) : Int) := by rw [wrap_id (by omega) (by omega)]; omega
    have e2 : Go.bits .xor .i64 ((x / 2 : Nat) : Int) 2197175160 = (((x / 2) ^^^ 2197175160 : Nat) : Int) := xor_nat (a := x / 2) (b := 2197175160) (by omega) (by decide)
    have e4 := and_one (a := x) (by omega)
    refine Ev.step (f := fun k => spec_l5Byte.l0 k ((Crc.sh1 x : Nat) : Int) ((i + 1 : Nat) : Int)) (fun k => ?_) (ih _ _ (Crc.sh1_lt hx) (by omega))
    simp only [spec_l5Byte.l0, e1, half_nat, e2, e4, Crc.sh1]
    rw [if_pos (by omega)]
    by_cases h1 : x % 2 = 1
    · rw [if_pos (show ((x % 2 : Nat) : Int) = 1 by omega), if_pos h1]
    · rw [if_neg (show ¬ ((x % 2 : Nat) : Int) = 1 by omega), if_neg h1]
theorem spec_l5Byte_ev (x : Nat) (hx : x < 2 ^ 32) : Ev (fun k => spec_l5Byte.f k (x : Int)) ((Crc.shN 8 x : Nat) : Int) := spec_l5Byte_l0 8 x 0 hx rfl

theorem spec_l5On_l0 (s : ByteArray) (hs : s.size ≤ 140737488351232) : ∀ (d x i : Nat), x < 2 ^ 32 → i + d = s.size → Ev (fun k => spec_l5On.l0 k (x : Int) s (i : Int)) ((Crc.crcL ((Crc.bl s).drop i) x ^^^ Crc.ones : Nat) : Int) := by
  intro d
  induction d with
  | zero =>
    intro x i hx hi
    obtain rfl : i = s.size := by omega
    have e : Go.bits .xor .i64 (x : Int) 4294967295 = ((x ^^^ Crc.ones : Nat) : Int) := xor_nat (a := x) (b := 4294967295) (by omega) (by decide)
    rw [Crc.bl_end]
    exact Ev.step (f := fun _ => some ((x ^^^ Crc.ones : Nat) : Int)) (fun k => by simp only [spec_l5On.l0]; rw [if_neg (by omega), e]) (Ev.now _)
  | succ d ih =>
    intro x i hx hi
    have hlt : i < s.size := by omega
    have e1 : wrap64 ((i : Int) + 1) = ((i + 1 : Nat) : Int) := by rw [wrap_id (by omega) (by omega)]; omega
    rw [Crc.bl_drop s i hlt]
    have hc : (Crc.bl s)[i]'(by rw [Crc.bl_length]; exact hlt) < 256 := Crc.bl_lt s _ (List.getElem_mem _)
    have e2 := Crc.bt_bl s i hlt
    generalize (Crc.bl s)[i]'(by rw [Crc.bl_length]; exact hlt) = c at hc e2 ⊢
    have e3 : wrap64 (bt s (i : Int)) = ((c : Nat) : Int) := by rw [e2]; exact wrap_id (by omega) (by omega)
    have e4 : Go.bits .xor .i64 (x : Int) (c : Int) = ((x ^^^ c : Nat) : Int) := xor_nat (by omega) (by omega)
    have hx' : x ^^^ c < 2 ^ 32 := Nat.xor_lt_two_pow hx (by omega)
    refine Ev.step (f := fun k => (spec_l5Byte.f k ((x ^^^ c : Nat) : Int)).bind fun t => spec_l5On.l0 k t s ((i + 1 : Nat) : Int)) (fun k => ?_) ?_
    · simp only [spec_l5On.l0, e1, e3, e4]
      rw [if_pos (by omega), if_pos (by omega)]
    · exact Ev.bind (f := fun k t => spec_l5On.l0 k t s ((i + 1 : Nat) : Int)) (spec_l5Byte_ev _ hx') (ih _ _ (Crc.shN_lt 8 hx') (by omega))
theorem spec_l5On_ev (x : Nat) (s : ByteArray) (hs : s.size ≤ 140737488351232) (hx : x < 2 ^ 32) : Ev (fun k => spec_l5On.f k (x : Int) s) ((Crc.sumL x (Crc.bl s) : Nat) : Int) := by
  have e : Go.bits .xor .i64 (x : Int) 4294967295 = ((x ^^^ Crc.ones : Nat) : Int) := xor_nat (a := x) (b := 4294967295) (by omega) (by decide)
  unfold spec_l5On.f
  rw [e]
  exact spec_l5On_l0 s hs s.size _ 0 (Nat.xor_lt_two_pow hx (by decide)) (by omega)

theorem w_m1 : wrap64 (0 - 1) = -1 := wrap_id (by omega) (by omega)
theorem w_0 : wrap64 (1 - 1) = 0 := wrap_id (by omega) (by omega)
theorem w_1 : wrap64 (2 - 1) = 1 := wrap_id (by omega) (by omega)
theorem spec_l6Bytes_one (n : Int) : Ev (fun k => spec_l6Bytes.f k n 1) (strOfNums [n % 256]) := by
  refine Ev.congr (f := fun k => spec_l6Bytes.l0 k n [0] 0) (fun k => ?_) ?_
  · unfold spec_l6Bytes.f
    rw [if_pos (by omega), if_pos (by decide), w_0]; rfl
  refine Ev.step (f := fun k => spec_l6Bytes.l0 k (n / 256) [n % 256] (-1)) (fun k => ?_) ?_
  · rw [spec_l6Bytes.l0.eq_2, if_pos (by omega), if_pos (by omega), if_pos (by simp), w_m1]; rfl
  · exact Ev.step (f := fun _ => some (strOfNums [n % 256])) (fun k => by rw [spec_l6Bytes.l0.eq_2, if_neg (by omega)]) (Ev.now _)
theorem spec_l6Bytes_two (n : Int) : Ev (fun k => spec_l6Bytes.f k n 2) (strOfNums [n / 256 % 256, n % 256]) := by
  refine Ev.congr (f := fun k => spec_l6Bytes.l0 k n [0, 0] 1) (fun k => ?_) ?_
  · unfold spec_l6Bytes.f
    rw [if_pos (by omega), if_pos (by decide), w_1]; rfl
  refine Ev.step (f := fun k => spec_l6Bytes.l0 k (n / 256) [0, n % 256] 0) (fun k => ?_) ?_
  · rw [spec_l6Bytes.l0.eq_2, if_pos (by omega), if_pos (by omega), if_pos (by simp), w_0]; rfl
  refine Ev.step (f := fun k => spec_l6Bytes.l0 k (n / 256 / 256) [n / 256 % 256, n % 256] (-1)) (fun k => ?_) ?_
  · rw [spec_l6Bytes.l0.eq_2, if_pos (by omega), if_pos (by omega), if_pos (by simp), w_m1]; rfl
  · exact Ev.step (f := fun _ => some (strOfNums [n / 256 % 256, n % 256])) (fun k => by rw [spec_l6Bytes.l0.eq_2, if_neg (by omega)]) (Ev.now _)

theorem u8_i (i : Int) (h0 : 0 ≤ i) (h4 : i < 4) : IntKind.u64.wrap (wrap64 (8 * i)) = 8 * i := by
  rw [wrap_id (by omega) (by omega), IntKind.wrap_u64]; omega
theorem spec_l6Low_ev (n : Int) : Ev (fun k => spec_l6Low.f k n) (strOfNums (lowL n)) := by
  unfold spec_l6Low.f
  have st : ∀ (i : Int) (s : ByteArray) (d : Int), 0 ≤ i → i < 4 → s.size ≤ 100 → shr .i64 n (8 * i) = d →
      ∀ R, Ev (fun k => spec_l6Low.l0 k n (s ++ strOfNums [d % 256]) (i + 1)) R → Ev (fun k => spec_l6Low.l0 k n s i) R := by
    intro i s d h0 h4 hs hd R h
    have ew : wrap64 (i + 1) = i + 1 := wrap_id (by omega) (by omega)
    have hu : 0 ≤ 8 * i := by omega
    refine Ev.step (fun k => spec_l6Low.l0.eq_2 _ _ _ k) ?_
    simp only [u8_i i h0 h4, if_pos h4, if_pos hu, hd, ew]
    refine Ev.bind (spec_l6Bytes_one d) ?_
    exact Ev.congr (f := fun k => spec_l6Low.l0 k n (s ++ strOfNums [d % 256]) (i + 1)) (fun k => if_pos (by rw [son_size]; simp; omega)) h
  have q0 : (2 : Int) ^ min (8 * 0 : Int).toNat IntKind.i64.bits = 1 := by decide
  have q1 : (2 : Int) ^ min (8 * 1 : Int).toNat IntKind.i64.bits = 256 := by decide
  have q2 : (2 : Int) ^ min (8 * 2 : Int).toNat IntKind.i64.bits = 65536 := by decide
  have q3 : (2 : Int) ^ min (8 * 3 : Int).toNat IntKind.i64.bits = 16777216 := by decide
  have s1 : ∀ n : Int, (strOfNums [n]).size = 1 := fun n => son_size _
  have s0 : (⟨#[]⟩ : ByteArray).size = 0 := rfl
  refine st 0 ⟨#[]⟩ n (by decide) (by decide) (by decide) (by unfold shr; rw [q0]; omega) _ ?_
  refine st 1 _ (n / 256) (by decide) (by decide) (by rw [ByteArray.size_append, s1, s0]; decide) (by unfold shr; rw [q1]) _ ?_
  refine st 2 _ (n / 65536) (by decide) (by decide) (by rw [ByteArray.size_append, ByteArray.size_append, s1, s1, s0]; decide) (by unfold shr; rw [q2]) _ ?_
  refine st 3 _ (n / 16777216) (by decide) (by decide) (by rw [ByteArray.size_append, ByteArray.size_append, ByteArray.size_append, s1, s1, s1, s0]; decide) (by unfold shr; rw [q3]) _ ?_
  have e : ((((⟨#[]⟩ : ByteArray) ++ strOfNums [n % 256]) ++ strOfNums [n / 256 % 256]) ++ strOfNums [n / 65536 % 256]) ++ strOfNums [n / 16777216 % 256] = strOfNums (lowL n) := by
    rw [show (⟨#[]⟩ : ByteArray) = strOfNums [] from rfl, ← son_append, ← son_append, ← son_append, ← son_append]; rfl
  rw [e]
  exact Ev.step (f := fun _ => some (strOfNums (lowL n))) (fun k => by rw [spec_l6Low.l0.eq_2, if_neg (by omega)]) (Ev.now _)

theorem spec_l6Frame_ev (k a e : Int) (b : ByteArray) (hb : b.size ≤ 16) : Ev (fun r => spec_l6Frame.f r k a e b) (frB k a e b) := by
  have ew : wrap64 (wrap64 (16 - (b.size : Int)) + 2) = ((18 - b.size : Nat) : Int) := by rw [wrap_id (n := 16 - (b.size : Int)) (by omega) (by omega), wrap_id (by omega) (by omega)]; omega
  have z1 : (0 : Int) ≤ ((18 - b.size : Nat) : Int) := by omega
  have z2 : ((18 - b.size : Nat) : Int).toNat ≤ 281474976710656 := by rw [Int.toNat_natCast]; omega
  have one : ∀ n : Int, (strOfNums [n]).size = 1 := fun n => son_size _
  have two : ∀ m n : Int, (strOfNums [m, n]).size = 2 := fun m n => son_size _
  have zz : (strOfNums (List.replicate (18 - b.size) 0)).size = 18 - b.size := by rw [son_size, List.length_replicate]
  have eh : strOfNums [k % 256] ++ strOfNums [a / 256 % 256, a % 256] ++ strOfNums [e / 256 % 256, e % 256] ++ strOfNums [(b.size : Int) % 256] ++ b ++ strOfNums (List.replicate (18 - b.size) 0) = strOfNums (hdL k a e b) := by
    unfold hdL
    rw [son_append, son_append, son_bytesOf, ← son_append, ← son_append, ← son_append]; rfl
  unfold spec_l6Frame.f
  refine Ev.bind (spec_l6Bytes_one k) ?_
  refine Ev.bind (spec_l6Bytes_two a) ?_
  refine Ev.congr (f := fun r => (spec_l6Bytes.f r e 2).bind fun t3 => if (strOfNums [k % 256] ++ strOfNums [a / 256 % 256, a % 256]).size + t3.size ≤ 9223372036854775807 then ((spec_l6Bytes.f r (b.size : Int) 1).bind fun t4 => (if ((strOfNums [k % 256] ++ strOfNums [a / 256 % 256, a % 256]) ++ t3).size + t4.size ≤ 9223372036854775807 then (if (((strOfNums [k % 256] ++ strOfNums [a / 256 % 256, a % 256]) ++ t3) ++ t4).size + b.size ≤ 9223372036854775807 then (if 0 ≤ (wrap64 ((wrap64 (16 - (b.size : Int))) + 2)) then (if (wrap64 ((wrap64 (16 - (b.size : Int))) + 2) : Int).toNat ≤ 281474976710656 then ((some (List.replicate (wrap64 ((wrap64 (16 - (b.size : Int))) + 2) : Int).toNat 0 : List Int)).bind fun y => (if ((((strOfNums [k % 256] ++ strOfNums [a / 256 % 256, a % 256]) ++ t3) ++ t4) ++ b).size + (strOfNums y).size ≤ 9223372036854775807 then ((spec_l5On.f r 0 (((((strOfNums [k % 256] ++ strOfNums [a / 256 % 256, a % 256]) ++ t3) ++ t4) ++ b) ++ (strOfNums y))).bind fun u => ((spec_l6Low.f r u).bind fun v => (if (((((strOfNums [k % 256] ++ strOfNums [a / 256 % 256, a % 256]) ++ t3) ++ t4) ++ b) ++ (strOfNums y)).size + v.size ≤ 9223372036854775807 then (some ((((((strOfNums [k % 256] ++ strOfNums [a / 256 % 256, a % 256]) ++ t3) ++ t4) ++ b) ++ (strOfNums y)) ++ v)) else (none)))) else (none))) else (none)) else (none)) else (none)) else (none))) else none) (fun r => if_pos (by rw [one, two]; omega)) ?_
  refine Ev.bind (spec_l6Bytes_two e) ?_
  refine Ev.congr (f := fun r => (spec_l6Bytes.f r (b.size : Int) 1).bind fun t4 => (if ((strOfNums [k % 256] ++ strOfNums [a / 256 % 256, a % 256]) ++ strOfNums [e / 256 % 256, e % 256]).size + t4.size ≤ 9223372036854775807 then (if (((strOfNums [k % 256] ++ strOfNums [a / 256 % 256, a % 256]) ++ strOfNums [e / 256 % 256, e % 256]) ++ t4).size + b.size ≤ 9223372036854775807 then (if 0 ≤ (wrap64 ((wrap64 (16 - (b.size : Int))) + 2)) then (if (wrap64 ((wrap64 (16 - (b.size : Int))) + 2) : Int).toNat ≤ 281474976710656 then ((some (List.replicate (wrap64 ((wrap64 (16 - (b.size : Int))) + 2) : Int).toNat 0 : List Int)).bind fun y => (if ((((strOfNums [k % 256] ++ strOfNums [a / 256 % 256, a % 256]) ++ strOfNums [e / 256 % 256, e % 256]) ++ t4) ++ b).size + (strOfNums y).size ≤ 9223372036854775807 then ((spec_l5On.f r 0 (((((strOfNums [k % 256] ++ strOfNums [a / 256 % 256, a % 256]) ++ strOfNums [e / 256 % 256, e % 256]) ++ t4) ++ b) ++ (strOfNums y))).bind fun u => ((spec_l6Low.f r u).bind fun v => (if (((((strOfNums [k % 256] ++ strOfNums [a / 256 % 256, a % 256]) ++ strOfNums [e / 256 % 256, e % 256]) ++ t4) ++ b) ++ (strOfNums y)).size + v.size ≤ 9223372036854775807 then (some ((((((strOfNums [k % 256] ++ strOfNums [a / 256 % 256, a % 256]) ++ strOfNums [e / 256 % 256, e % 256]) ++ t4) ++ b) ++ (strOfNums y)) ++ v)) else (none)))) else (none))) else (none)) else (none)) else (none)) else (none))) (fun r => if_pos (by rw [ByteArray.size_append, one, two, two]; omega)) ?_
  refine Ev.bind (spec_l6Bytes_one (b.size : Int)) ?_
  rw [ew]
  refine Ev.congr (f := fun r => (spec_l5On.f r 0 (strOfNums (hdL k a e b))).bind fun u => ((spec_l6Low.f r u).bind fun v => (if (strOfNums (hdL k a e b)).size + v.size ≤ 9223372036854775807 then (some (strOfNums (hdL k a e b) ++ v)) else (none)))) (fun r => ?_) ?_
  · rw [if_pos (by simp only [ByteArray.size_append, one, two]; omega), if_pos (by simp only [ByteArray.size_append, one, two]; omega), if_pos z1, if_pos z2, Option.bind_some, Int.toNat_natCast, if_pos (by simp only [ByteArray.size_append, one, two, zz]; omega), eh]
  · refine Ev.bind (spec_l5On_ev 0 (strOfNums (hdL k a e b)) (by rw [son_size, hdL_length k a e b hb]; omega) (by decide)) ?_
    refine Ev.bind (spec_l6Low_ev _) ?_
    refine Ev.congr (f := fun _ => some (frB k a e b)) (fun r => ?_) (Ev.now _)
    rw [if_pos (by rw [son_size, son_size, hdL_length k a e b hb, lowL_length]; omega)]
    unfold frB
    rw [son_append]

/-- The frames of pieces, from place a on; nothing if one is not good. -/
def framesL (k e : Int) : Int → List ByteArray → Option (List ByteArray)
  | _, [] => some []
  | a, b :: l => if goodF k a e b then (framesL k e (a + 1) l).map (frB k a e b :: ·) else none
def frameV (k a e : Int) (s : ByteArray) : List ByteArray × Bool := if (splitV s).2 then (match framesL k e a (splitV s).1 with | some l => (l, true) | none => ([], false)) else ([], false)
theorem framesL_length (k e : Int) : ∀ (l : List ByteArray) (a : Int) (m : List ByteArray), framesL k e a l = some m → m.length = l.length
  | [], _, m, h => by cases h; rfl
  | b :: l, a, m, h => by
    unfold framesL at h
    split at h
    · obtain ⟨n, hn, rfl⟩ := Option.map_eq_some_iff.1 h
      simp [framesL_length k e l (a + 1) n hn]
    · cases h
theorem frameV_length (k a e : Int) (s : ByteArray) : (frameV k a e s).1.length ≤ 11 := by
  unfold frameV
  have h := splitV_length s
  split
  · cases hm : framesL k e a (splitV s).1 with
    | none => simp
    | some m => rw [framesL_length k e _ _ _ hm]; exact h
  · simp
theorem goodF_wrap {k a e : Int} {b : ByteArray} {i : Nat} (ha : -9223372036854775808 ≤ a ∧ a ≤ 9223372036854775807) (hi : i ≤ 100) : goodF k (wrap64 (a + (i : Int))) e b = goodF k (a + (i : Int)) e b := by
  by_cases h : a + (i : Int) ≤ 9223372036854775807
  · rw [wrap_id (by omega) h]
  · have e1 : decide (0 ≤ wrap64 (a + (i : Int)) ∧ wrap64 (a + (i : Int)) ≤ 60000) = false := by
      rw [decide_eq_false_iff_not]; unfold wrap64; omega
    have e2 : decide (0 ≤ a + (i : Int) ∧ a + (i : Int) ≤ 60000) = false := by rw [decide_eq_false_iff_not]; omega
    unfold goodF
    rw [e1, e2]

theorem spec_FrameBytes_ev (k a e : Int) (b : ByteArray) : Ev (fun r => spec_FrameBytes.f r k a e b) (if goodF k a e b then (frB k a e b, true) else (⟨#[]⟩, false)) := by
  unfold spec_FrameBytes.f
  simp only [spec_GoodFrame_eq, Option.bind_some]
  cases h : goodF k a e b
  · exact Ev.now _
  · simp only [if_true]
    exact Ev.bind (spec_l6Frame_ev k a e b (goodF_bd h).2.2.2.2.2.2) (Ev.now _)

theorem spec_FrameAll_l0 (k a e : Int) (ha : -9223372036854775808 ≤ a ∧ a ≤ 9223372036854775807) (l : List ByteArray) (hl : l.length ≤ 11) : ∀ (d i : Nat) (acc : List ByteArray), i + d = l.length → acc.length ≤ i →
    Ev (fun r => spec_FrameAll.l0 r k a e acc l (l.length : Int) (i : Int)) (match framesL k e (a + (i : Int)) (l.drop i) with | some m => (acc ++ m, true) | none => ([], false)) := by
  intro d
  induction d with
  | zero =>
    intro i acc hi _
    obtain rfl : i = l.length := by omega
    rw [List.drop_length]
    show Ev _ (acc ++ [], true)
    rw [List.append_nil]
    exact Ev.step (f := fun _ => some (acc, true)) (fun r => by simp only [spec_FrameAll.l0]; rw [if_neg (by omega)]) (Ev.now _)
  | succ d ih =>
    intro i acc hi hacc
    have hlt : i < l.length := by omega
    have z1 : (i : Int) < (l.length : Int) := by omega
    have z2 : (0 : Int) ≤ (i : Int) := by omega
    have ew : wrap64 ((i : Int) + 1) = ((i + 1 : Nat) : Int) := by rw [wrap_id (by omega) (by omega)]; omega
    rw [List.drop_eq_getElem_cons hlt]
    unfold framesL
    refine Ev.step (fun k => spec_FrameAll.l0.eq_2 _ _ _ _ _ _ _ k) ?_
    simp only [if_pos z1, if_pos z2, rdOf_nat _ l i hlt, ew]
    refine Ev.bind (spec_FrameBytes_ev _ _ _ _) ?_
    rw [goodF_wrap ha (by omega)]
    cases hg : goodF k (a + (i : Int)) e l[i]
    · simp only [Bool.false_eq_true, if_false]
      exact Ev.now _
    · have hb := goodF_bd hg
      have ea : wrap64 (a + (i : Int)) = a + (i : Int) := wrap_id (by omega) (by omega)
      simp only [if_true, ea]
      refine Ev.congr (f := fun r => spec_FrameAll.l0 r k a e (acc ++ [frB k (a + (i : Int)) e l[i]]) l (l.length : Int) ((i + 1 : Nat) : Int)) (fun r => if_pos (by omega)) ?_
      have := ih (i + 1) (acc ++ [frB k (a + (i : Int)) e l[i]]) (by omega) (by simp; omega)
      rw [show a + ((i + 1 : Nat) : Int) = a + (i : Int) + 1 by omega] at this
      cases hf : framesL k e (a + (i : Int) + 1) (l.drop (i + 1)) with
      | none => rw [hf] at this; exact this
      | some m => rw [hf] at this; simpa using this
theorem spec_FrameAll_ev (k a e : Int) (ha : -9223372036854775808 ≤ a ∧ a ≤ 9223372036854775807) (s : ByteArray) : Ev (fun r => spec_FrameAll.f r k a e s) (frameV k a e s) := by
  unfold spec_FrameAll.f frameV
  refine Ev.bind (spec_SplitBody_ev s) ?_
  have hl := splitV_length s
  cases h : (splitV s).2
  · exact Ev.now _
  · simp only [if_true]
    have := spec_FrameAll_l0 k a e ha (splitV s).1 hl (splitV s).1.length 0 [] (by omega) (by simp)
    rw [List.drop_zero, show a + ((0 : Nat) : Int) = a by omega] at this
    exact this

theorem impl_SplitBody_l0 : ∀ (f : Nat) (s : ByteArray) (acc : List ByteArray), s.size ≤ 16 * f → acc.length + f ≤ 100 → Ev (fun k => impl_SplitBody.l0 k s acc) (acc ++ splitL f s, true) := by
  intro f
  induction f with
  | zero =>
    intro s acc hs ha
    exact Ev.step (f := fun _ => some (acc ++ [s], true)) (fun k => by simp only [impl_SplitBody.l0]; rw [if_neg (by omega), if_pos (by omega)]) (Ev.now _)
  | succ f ih =>
    intro s acc hs ha
    unfold splitL
    by_cases h : 16 < s.size
    · rw [if_pos h]
      have := ih (s.extract 16 s.size) (acc ++ [s.extract 0 16]) (by simp only [ByteArray.size_extract]; omega) (by simp; omega)
      rw [List.append_assoc] at this
      refine Ev.step (f := fun k => impl_SplitBody.l0 k (s.extract 16 s.size) (acc ++ [s.extract 0 16])) (fun k => ?_) this
      simp only [impl_SplitBody.l0]
      rw [if_pos (by omega), if_pos (by omega), if_pos (by omega), if_pos (by omega)]
    · rw [if_neg h]
      exact Ev.step (f := fun _ => some (acc ++ [s], true)) (fun k => by simp only [impl_SplitBody.l0]; rw [if_neg (by omega), if_pos (by omega)]) (Ev.now _)
theorem impl_SplitBody_ev (s : ByteArray) : Ev (fun k => impl_SplitBody.f k s) (splitV s) := by
  unfold impl_SplitBody.f splitV
  simp only [impl_within_eq, Option.bind_some]
  by_cases h : 1 ≤ s.size ∧ s.size ≤ 160
  · have z : (1 : Int) ≤ (s.size : Int) ∧ (s.size : Int) ≤ 160 := by omega
    rw [if_pos h]
    simp only [decide_eq_true z, if_true]
    have := impl_SplitBody_l0 10 s [] (by omega) (by simp)
    simpa using this
  · have z : ¬ ((1 : Int) ≤ (s.size : Int) ∧ (s.size : Int) ≤ 160) := by omega
    rw [if_neg h]
    simp only [decide_eq_false z]
    exact Ev.now _

theorem impl_GoodFrame_eq (k a e : Int) (b : ByteArray) : impl_GoodFrame.f k a e b = some (goodF k a e b) := by
  unfold impl_GoodFrame.f goodF
  simp only [impl_within_eq, Option.bind_some, size_dec]
  cases decide (1 ≤ k ∧ k ≤ 255) <;> cases decide (0 ≤ a ∧ a ≤ 60000) <;> cases decide (0 ≤ e ∧ e ≤ 60000) <;> rfl

theorem impl_shifted_l0 : ∀ (n x i : Nat), x < 2 ^ 32 → n + i = 8 → Ev (fun k => impl_shifted.l0 k (x : Int) (i : Int)) ((Crc.shN n x : Nat) : Int) := by
  intro n
  induction n with
  | zero =>
    intro x i _ hi
    obtain rfl : i = 8 := by omega
    exact Ev.step (f := fun _ => some ((x : Nat) : Int)) (fun k => by simp only [impl_shifted.l0]; rw [if_neg (by omega)]) (Ev.now _)
  | succ n ih =>
    intro x i hx hi
    have e1 : wrap64 ((i : Int) + 1) = ((i + 1 : Nat) : Int) := by rw [wrap_id (by omega) (by omega)]; omega
    have e2 : Go.bits .xor .i64 ((x / 2 : Nat) : Int) 2197175160 = (((x / 2) ^^^ 2197175160 : Nat) : Int) := xor_nat (a := x / 2) (b := 2197175160) (by omega) (by decide)
    have e4 := and_one (a := x) (by omega)
    refine Ev.step (f := fun k => impl_shifted.l0 k ((Crc.sh1 x : Nat) : Int) ((i + 1 : Nat) : Int)) (fun k => ?_) (ih _ _ (Crc.sh1_lt hx) (by omega))
    simp only [impl_shifted.l0, e1, half_nat, e2, e4, Crc.sh1]
    rw [if_pos (by omega)]
    by_cases h1 : x % 2 = 1
    · rw [if_pos (show ((x % 2 : Nat) : Int) = 1 by omega), if_pos h1]
    · rw [if_neg (show ¬ ((x % 2 : Nat) : Int) = 1 by omega), if_neg h1]
theorem impl_shifted_ev (x : Nat) (hx : x < 2 ^ 32) : Ev (fun k => impl_shifted.f k (x : Int)) ((Crc.shN 8 x : Nat) : Int) := impl_shifted_l0 8 x 0 hx rfl

theorem impl_turned_eq (x : Nat) (hx : x < 2 ^ 32) : impl_turned.f (x : Int) = some ((x ^^^ Crc.ones : Nat) : Int) := by
  have e : Go.bits .xor .i64 (x : Int) 4294967295 = ((x ^^^ Crc.ones : Nat) : Int) := xor_nat (a := x) (b := 4294967295) (by omega) (by decide)
  unfold impl_turned.f
  rw [e]

theorem impl_sumOn_l0 (s : ByteArray) (hs : s.size ≤ 140737488351232) : ∀ (d x i : Nat), x < 2 ^ 32 → i + d = s.size → Ev (fun k => impl_sumOn.l0 k (x : Int) s (s.size : Int) (i : Int)) ((Crc.crcL ((Crc.bl s).drop i) x ^^^ Crc.ones : Nat) : Int) := by
  intro d
  induction d with
  | zero =>
    intro x i hx hi
    obtain rfl : i = s.size := by omega
    rw [Crc.bl_end]
    exact Ev.step (f := fun _ => some ((x ^^^ Crc.ones : Nat) : Int)) (fun k => by simp only [impl_sumOn.l0]; rw [if_neg (by omega), impl_turned_eq x hx]; rfl) (Ev.now _)
  | succ d ih =>
    intro x i hx hi
    have hlt : i < s.size := by omega
    have e1 : wrap64 ((i : Int) + 1) = ((i + 1 : Nat) : Int) := by rw [wrap_id (by omega) (by omega)]; omega
    rw [Crc.bl_drop s i hlt]
    have hc : (Crc.bl s)[i]'(by rw [Crc.bl_length]; exact hlt) < 256 := Crc.bl_lt s _ (List.getElem_mem _)
    have e2 := Crc.bt_bl s i hlt
    generalize (Crc.bl s)[i]'(by rw [Crc.bl_length]; exact hlt) = c at hc e2 ⊢
    have e3 : wrap64 (bt s (i : Int)) = ((c : Nat) : Int) := by rw [e2]; exact wrap_id (by omega) (by omega)
    have e4 : Go.bits .xor .i64 (x : Int) (c : Int) = ((x ^^^ c : Nat) : Int) := xor_nat (by omega) (by omega)
    have hx' : x ^^^ c < 2 ^ 32 := Nat.xor_lt_two_pow hx (by omega)
    refine Ev.step (f := fun k => (impl_shifted.f k ((x ^^^ c : Nat) : Int)).bind fun t => impl_sumOn.l0 k t s (s.size : Int) ((i + 1 : Nat) : Int)) (fun k => ?_) ?_
    · simp only [impl_sumOn.l0, e1, e3, e4]
      rw [if_pos (by omega), if_pos (by omega), if_pos (by omega)]
    · exact Ev.bind (f := fun k t => impl_sumOn.l0 k t s (s.size : Int) ((i + 1 : Nat) : Int)) (impl_shifted_ev _ hx') (ih _ _ (Crc.shN_lt 8 hx') (by omega))
theorem impl_sumOn_ev (x : Nat) (s : ByteArray) (hs : s.size ≤ 140737488351232) (hx : x < 2 ^ 32) : Ev (fun k => impl_sumOn.f k (x : Int) s) ((Crc.sumL x (Crc.bl s) : Nat) : Int) := by
  unfold impl_sumOn.f
  simp only [impl_turned_eq x hx, Option.bind_some]
  exact impl_sumOn_l0 s hs s.size _ 0 (Nat.xor_lt_two_pow hx (by decide)) (by omega)

theorem impl_frameBytes_ev (k a e : Int) (b : ByteArray) (hb : b.size ≤ 16) : Ev (fun r => impl_frameBytes.f r k a e b) (frB k a e b) := by
  have ew : wrap64 (18 - (b.size : Int)) = ((18 - b.size : Nat) : Int) := by rw [wrap_id (by omega) (by omega)]; omega
  have z1 : (0 : Int) ≤ ((18 - b.size : Nat) : Int) := by omega
  have hl := hdL_length k a e b hb
  refine Ev.congr (f := fun r => (impl_sumOn.f r 0 (strOfNums (hdL k a e b))).bind fun t => if (hdL k a e b).length + (lowL t).length < 140737488355328 then some (strOfNums (hdL k a e b ++ lowL t)) else none) (fun r => ?_) ?_
  · unfold impl_frameBytes.f
    rw [Option.bind_some, if_pos (by simp; omega), Option.bind_some, ew, if_pos z1, if_pos (by rw [List.length_append, bytesOf_length, Int.toNat_natCast]; simp; omega), Option.bind_some, Int.toNat_natCast]
    rfl
  · refine Ev.bind (impl_sumOn_ev 0 (strOfNums (hdL k a e b)) (by rw [son_size, hl]; omega) (by decide)) ?_
    exact Ev.congr (f := fun _ => some (frB k a e b)) (fun r => if_pos (by rw [hl, lowL_length]; omega)) (Ev.now _)

theorem impl_FrameAll_l0 (k a e : Int) (ha : -9223372036854775808 ≤ a ∧ a ≤ 9223372036854775807) (l : List ByteArray) (hl : l.length ≤ 11) : ∀ (d i : Nat) (acc : List ByteArray), i + d = l.length → acc.length ≤ i →
    Ev (fun r => impl_FrameAll.l0 r k a e acc l (l.length : Int) (i : Int)) (match framesL k e (a + (i : Int)) (l.drop i) with | some m => (acc ++ m, true) | none => ([], false)) := by
  intro d
  induction d with
  | zero =>
    intro i acc hi _
    obtain rfl : i = l.length := by omega
    rw [List.drop_length]
    show Ev _ (acc ++ [], true)
    rw [List.append_nil]
    exact Ev.step (f := fun _ => some (acc, true)) (fun r => by simp only [impl_FrameAll.l0]; rw [if_neg (by omega)]) (Ev.now _)
  | succ d ih =>
    intro i acc hi hacc
    have hlt : i < l.length := by omega
    have z1 : (i : Int) < (l.length : Int) := by omega
    have z2 : (0 : Int) ≤ (i : Int) := by omega
    have ew : wrap64 ((i : Int) + 1) = ((i + 1 : Nat) : Int) := by rw [wrap_id (by omega) (by omega)]; omega
    rw [List.drop_eq_getElem_cons hlt]
    unfold framesL
    refine Ev.step (fun k => impl_FrameAll.l0.eq_2 _ _ _ _ _ _ _ k) ?_
    simp only [if_pos z1, if_pos z2, rdOf_nat _ l i hlt, ew, impl_GoodFrame_eq, Option.bind_some]
    rw [goodF_wrap ha (by omega)]
    cases hg : goodF k (a + (i : Int)) e l[i]
    · simp only [Bool.false_eq_true, if_false]
      exact Ev.now _
    · have hb := goodF_bd hg
      have ea : wrap64 (a + (i : Int)) = a + (i : Int) := wrap_id (by omega) (by omega)
      simp only [if_true, ea]
      refine Ev.bind (impl_frameBytes_ev k (a + (i : Int)) e l[i] hb.2.2.2.2.2.2) ?_
      refine Ev.congr (f := fun r => impl_FrameAll.l0 r k a e (acc ++ [frB k (a + (i : Int)) e l[i]]) l (l.length : Int) ((i + 1 : Nat) : Int)) (fun r => if_pos (by omega)) ?_
      have := ih (i + 1) (acc ++ [frB k (a + (i : Int)) e l[i]]) (by omega) (by simp; omega)
      rw [show a + ((i + 1 : Nat) : Int) = a + (i : Int) + 1 by omega] at this
      cases hf : framesL k e (a + (i : Int) + 1) (l.drop (i + 1)) with
      | none => rw [hf] at this; exact this
      | some m => rw [hf] at this; simpa using this
theorem impl_FrameAll_ev (k a e : Int) (ha : -9223372036854775808 ≤ a ∧ a ≤ 9223372036854775807) (s : ByteArray) : Ev (fun r => impl_FrameAll.f r k a e s) (frameV k a e s) := by
  unfold impl_FrameAll.f frameV
  refine Ev.bind (impl_SplitBody_ev s) ?_
  have hl := splitV_length s
  cases h : (splitV s).2
  · exact Ev.now _
  · simp only [if_true]
    have := impl_FrameAll_l0 k a e ha (splitV s).1 hl (splitV s).1.length 0 [] (by omega) (by simp)
    rw [List.drop_zero, show a + ((0 : Nat) : Int) = a by omega] at this
    exact this

/-- The text of a mark: so many digits at the most. -/
def mtF : Nat → Nat → ByteArray → ByteArray
  | 0, _, acc => (⟨#[109]⟩ : ByteArray) ++ acc
  | f + 1, n, acc => if n = 0 then (⟨#[109]⟩ : ByteArray) ++ acc else mtF f (n / 10) (strOfNums [(wrap64 (48 + (Int.tmod (n : Int) 10))) % 256] ++ acc)
def mt (n : Nat) : ByteArray := if n = 0 then (⟨#[109, 48]⟩ : ByteArray) else mtF 20 n ⟨#[]⟩
theorem strOfNums_one (x : Int) : (strOfNums [x]).size = 1 := by simp [strOfNums, ByteArray.size]
theorem laws_markText_l0 : ∀ (f n : Nat) (acc : ByteArray), n < 10 ^ f → f ≤ 20 → acc.size ≤ 1000 * (21 - f) → n ≤ 2000000000 → Ev (fun k => laws_markText.l0 k (n : Int) acc) (mtF f n acc) := by
  have stop : ∀ acc : ByteArray, acc.size ≤ 100000 → Ev (fun k => laws_markText.l0 k ((0 : Nat) : Int) acc) ((⟨#[109]⟩ : ByteArray) ++ acc) := fun acc h =>
    Ev.step (f := fun _ => some ((⟨#[109]⟩ : ByteArray) ++ acc)) (fun k => by simp only [laws_markText.l0]; rw [if_neg (by omega), if_pos (by omega)]) (Ev.now _)
  intro f
  induction f with
  | zero =>
    intro n acc hn _ ha _
    obtain rfl : n = 0 := by simpa using hn
    exact stop acc (by omega)
  | succ f ih =>
    intro n acc hn hf ha hb
    by_cases h0 : n = 0
    · subst h0
      exact stop acc (by omega)
    · unfold mtF
      rw [if_neg h0]
      have hd : wrap64 (Int.tdiv (n : Int) 10) = ((n / 10 : Nat) : Int) := by
        have : Int.tdiv (n : Int) 10 = ((n / 10 : Nat) : Int) := rfl
        rw [this]
        exact wrap_id (by omega) (by omega)
      have hs : (strOfNums [(wrap64 (48 + (Int.tmod (n : Int) 10))) % 256] ++ acc).size ≤ 1000 * (21 - f) := by
        rw [ByteArray.size_append, strOfNums_one]; omega
      refine Ev.step (f := fun k => laws_markText.l0 k ((n / 10 : Nat) : Int) (strOfNums [(wrap64 (48 + (Int.tmod (n : Int) 10))) % 256] ++ acc)) (fun k => ?_) (ih _ _ (by rw [Nat.pow_succ] at hn; omega) (by omega) hs (by omega))
      simp only [laws_markText.l0, Option.bind_some, hd]
      rw [if_pos (by omega), if_pos (by rw [strOfNums_one]; omega)]
theorem laws_markText_ev (n : Nat) (h : n ≤ 2000000000) : Ev (fun k => laws_markText.f k (n : Int)) (mt n) := by
  unfold laws_markText.f mt
  by_cases h0 : n = 0
  · subst h0
    exact Ev.now _
  · have z : ¬ (n : Int) ≤ 0 := by omega
    simp only [if_neg z, if_neg h0]
    exact laws_markText_l0 20 n _ (by omega) (by omega) (by simp [ByteArray.size]) h

/-- The marks m, m + 1, .., n of them. -/
def tmarks (m n : Nat) : List ByteArray := (List.range n).map fun j => mt (m + j)
theorem tmarks_length (m n : Nat) : (tmarks m n).length = n := by simp [tmarks]
theorem tmarks_succ (m n : Nat) : tmarks m (n + 1) = tmarks m n ++ [mt (m + n)] := by simp [tmarks, List.range_succ]
theorem tmarks_get (m n i : Nat) (h : i < (tmarks m n).length) : (tmarks m n)[i] = mt (m + i) := by simp [tmarks]

theorem laws_markStringS_l0 (l : List ByteArray) (m : Nat) (hl : l.length ≤ 1048576) (hm : m ≤ 1000000000) : ∀ d i : Nat, i + d = l.length → Ev (fun k => laws_markStringS.l0 k (tmarks m i ++ l.drop i) ((m + i : Nat) : Int) (i : Int)) (((m + l.length : Nat) : Int), tmarks m l.length) := by
  intro d
  induction d with
  | zero =>
    intro i hi
    obtain rfl : i = l.length := by omega
    refine Ev.step (f := fun _ => some (((m + l.length : Nat) : Int), tmarks m l.length)) (fun k => ?_) (Ev.now _)
    simp only [laws_markStringS.l0, List.drop_length, List.append_nil, tmarks_length]
    rw [if_neg (by omega)]
  | succ d ih =>
    intro i hi
    have hlt : i < l.length := by omega
    have e : (tmarks m i ++ l.drop i).set i (mt (m + i)) = tmarks m (i + 1) ++ l.drop (i + 1) := by
      rw [List.set_append_right _ _ (by rw [tmarks_length]; omega), tmarks_length, Nat.sub_self, List.drop_eq_getElem_cons hlt, List.set_cons_zero, tmarks_succ, List.append_assoc]
      rfl
    have hlen : (tmarks m i ++ l.drop i).length = l.length := by rw [List.length_append, tmarks_length, List.length_drop]; omega
    have e2 : wrap64 (((m + i : Nat) : Int) + 1) = ((m + (i + 1) : Nat) : Int) := by rw [wrap_id (by omega) (by omega)]; omega
    refine Ev.step (f := fun k => (laws_markText.f k ((m + i : Nat) : Int)).bind fun t => laws_markStringS.l0 k ((tmarks m i ++ l.drop i).set i t) ((m + (i + 1) : Nat) : Int) ((i + 1 : Nat) : Int)) (fun k => ?_) ?_
    · have z : (0 : Int) ≤ (i : Int) := by omega
      simp only [laws_markStringS.l0, hlen, Int.toNat_natCast, e2, wrap_succ2 i (by omega), if_pos z]
      rw [if_pos (by omega)]
    · refine Ev.bind (f := fun k t => laws_markStringS.l0 k ((tmarks m i ++ l.drop i).set i t) ((m + (i + 1) : Nat) : Int) ((i + 1 : Nat) : Int)) (laws_markText_ev (m + i) (by omega)) ?_
      simp only [e]
      exact ih (i + 1) (by omega)
theorem laws_markStringS_ev (l : List ByteArray) (m : Nat) (hl : l.length ≤ 1048576) (hm : m ≤ 1000000000) : Ev (fun k => laws_markStringS.f k l (m : Int)) (((m + l.length : Nat) : Int), tmarks m l.length) := by
  have := laws_markStringS_l0 l m hl hm l.length 0 (by omega)
  simp only [tmarks, List.range_zero, List.map_nil, List.nil_append, List.drop_zero, Nat.add_zero] at this
  exact this

theorem laws_heldStringS_l0 (m n : Nat) (h : m + n ≤ 2000000000) : ∀ d i : Nat, i + d = n → Ev (fun k => laws_heldStringS.l0 k (tmarks m n) ((m + i : Nat) : Int) (i : Int)) ((m + n : Nat) : Int) := by
  intro d
  induction d with
  | zero =>
    intro i hi
    obtain rfl : i = n := by omega
    refine Ev.step (f := fun _ => some ((m + i : Nat) : Int)) (fun k => ?_) (Ev.now _)
    simp only [laws_heldStringS.l0, tmarks_length]
    rw [if_neg (by omega)]
  | succ d ih =>
    intro i hi
    have hlt : i < (tmarks m n).length := by rw [tmarks_length]; omega
    have e2 : wrap64 (((m + i : Nat) : Int) + 1) = ((m + (i + 1) : Nat) : Int) := by rw [wrap_id (by omega) (by omega)]; omega
    refine Ev.step (f := fun k => (laws_markText.f k ((m + i : Nat) : Int)).bind fun t => if (mt (m + i)).toList = t.toList then laws_heldStringS.l0 k (tmarks m n) ((m + (i + 1) : Nat) : Int) ((i + 1 : Nat) : Int) else some (-1)) (fun k => ?_) ?_
    · simp only [laws_heldStringS.l0, rdOf_nat _ _ i hlt, tmarks_get, tmarks_length, e2, wrap_succ2 i (by omega)]
      rw [if_pos (by omega), if_pos (by omega)]
    · refine Ev.bind (f := fun k t => if (mt (m + i)).toList = t.toList then laws_heldStringS.l0 k (tmarks m n) ((m + (i + 1) : Nat) : Int) ((i + 1 : Nat) : Int) else some (-1)) (laws_markText_ev (m + i) (by omega)) ?_
      simp only [if_true]
      exact ih (i + 1) (by omega)
theorem laws_heldStringS_ev (m n : Nat) (h : m + n ≤ 2000000000) : Ev (fun k => laws_heldStringS.f k (tmarks m n) (m : Int)) ((m + n : Nat) : Int) := laws_heldStringS_l0 m n h n 0 (by omega)

theorem nat_nn (n : Nat) : ((n : Int) < 0) = False := by simp
theorem one_nat : (1 : Int) = ((1 : Nat) : Int) := rfl
theorem one_nn (n : Nat) : (((n : Nat) : Int) = ((n : Nat) : Int)) = True := by simp

theorem FnExactFrameAll : laws_FnExactFrameAll.Pure := by
  intro k a e s _ ha _ _
  have ha' := (wf_iff a).1 ha
  by_cases hs : (s.size : Int) > 1048576
  · exact ⟨0, by unfold laws_FnExactFrameAll.f; rw [if_pos hs]⟩
  have hg := frameV_length k a e s
  have E1 := spec_FrameAll_ev k a e ha' s
  have E2 := impl_FrameAll_ev k a e ha' s
  generalize frameV k a e s = g at E1 E2 hg
  obtain ⟨g, ok⟩ := g
  have hg' : g.length ≤ 11 := hg
  have E3 := laws_eqStringS_ev g g (by omega)
  have E4 := laws_markStringS_ev g 1 (by omega) (by omega)
  have E5 := laws_heldStringS_ev 1 g.length (by omega)
  rw [← one_nat] at E4 E5
  refine Ev.rounds ?_
  unfold laws_FnExactFrameAll.f
  simp only [if_neg hs]
  repeat' first
    | exact Ev.now _
    | refine Ev.bind (by assumption) ?_
    | refine Ev.step (fun k => laws_FnExactFrameAll.j0.eq_2 _ _ _ _ _ _ _ _ k) ?_
    | refine Ev.step (fun k => laws_FnExactFrameAll.j1.eq_2 _ _ _ k) ?_
    | simp only [decide_true, decide_false, if_true, if_false, bne_self_eq_false, Bool.false_eq_true, Bool.not_true, Bool.not_false, Bool.and_true, Bool.and_self, nat_nn, Option.bind_some, beq_self_eq_true, one_nn]

end Go.Proofs.Ytekadhniinpdfaa.Pure
