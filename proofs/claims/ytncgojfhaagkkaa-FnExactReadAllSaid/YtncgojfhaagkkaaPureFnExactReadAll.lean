/- ReadAll answers as the reference's does, for all lists of texts and numbers. No conditions beyond the row's own. -/
import Derived.Test.YtncgojfhaagkkaaMFnExactReadAllx9
import Derived.Test.YtncgojfhaagkkaaMFnExactReadAllx0
import Derived.Test.YtncgojfhaagkkaaMFnExactReadAllx1
import Derived.Test.YtncgojfhaagkkaaMFnExactReadAllx2
import Derived.Test.YtncgojfhaagkkaaMFnExactReadAllx3
import Derived.Test.YtncgojfhaagkkaaMFnExactReadAllx4
import Derived.Test.YtncgojfhaagkkaaMFnExactReadAllx5
import Derived.Test.YtncgojfhaagkkaaMFnExactReadAllx6
import Derived.Test.YtncgojfhaagkkaaMFnExactReadAllx7
import Derived.Test.YtncgojfhaagkkaaMFnExactReadAllx8
import Derived.Test.YtncgojfhaagkkaaBit
import Derived.Test.YtncgojfhaagkkaaCrc
set_option linter.unusedVariables false
set_option linter.unusedSimpArgs false
namespace Go.Proofs.Ytncgojfhaagkkaa.Pure
open Go.RowKit Go.Proofs.Ytncgojfhaagkkaa Go.Proofs.Ytncgojfhaagkkaa.MFnExactReadAll Go.Proofs.YtncgojfhaagkkaaW.PrintWords Go.Proofs.YtncgojfhaagkkaaW.PrintLast Go.Proofs.Ytncgojfhaagkkaa.Bit

theorem impl_within_eq (a b c : Int) : impl_within.f a b c = some (decide (b ≤ a ∧ a ≤ c)) := by
  unfold impl_within.f
  by_cases h : a ≥ b
  · rw [if_pos h]; congr 1; simp [show b ≤ a from h]
  · rw [if_neg h]; congr 1; simp; omega

theorem rdOf_nat {α : Type} (d : α) (l : List α) (i : Nat) (h : i < l.length) : rdOf d l (i : Int) = l[i] := by
  unfold rdOf
  simp [List.getD_eq_getElem?_getD, List.getElem?_eq_getElem h]
theorem wrap_succ2 (i : Nat) (h : i < 9223372036854775807) : wrap64 ((i : Int) + 1) = ((i + 1 : Nat) : Int) := by rw [wrap_id (by omega) (by omega)]; omega

/-- The pieces of a text: so many at the most. -/
def splitL : Nat → ByteArray → List ByteArray
  | 0, s => [s]
  | f + 1, s => if 16 < s.size then s.extract 0 16 :: splitL f (s.extract 16 s.size) else [s]
theorem splitL_length : ∀ f s, (splitL f s).length ≤ f + 1
  | 0, _ => by simp [splitL]
  | f + 1, s => by
    unfold splitL
    have := splitL_length f (s.extract 16 s.size)
    split <;> simp <;> omega
/-- What SplitBody answers. -/
def splitV (s : ByteArray) : List ByteArray × Bool := if 1 ≤ s.size ∧ s.size ≤ 160 then (splitL 10 s, true) else ([], false)
theorem splitV_length (s : ByteArray) : (splitV s).1.length ≤ 11 := by
  unfold splitV
  split
  · exact splitL_length 10 s
  · simp

/-- Texts put together, and which texts are a body's pieces. -/
def catB : List ByteArray → ByteArray
  | [] => ⟨#[]⟩
  | t :: l => t ++ catB l
def okJ : List ByteArray → Bool
  | [] => true
  | t :: l => decide (1 ≤ t.size ∧ t.size ≤ 16) && ((l.isEmpty || decide (t.size = 16)) && okJ l)
theorem catB_data : ∀ l : List ByteArray, (catB l).data.toList = (l.map (·.data.toList)).flatten
  | [] => rfl
  | t :: l => by
    show (t ++ catB l).data.toList = _
    rw [ByteArray.data_append, Array.toList_append, catB_data l]; rfl
theorem catB_size (t : ByteArray) (l : List ByteArray) : (catB (t :: l)).size = t.size + (catB l).size := ByteArray.size_append
theorem app_nil (t : ByteArray) : t ++ (⟨#[]⟩ : ByteArray) = t := by
  cases t
  apply ByteArray.ext
  rw [ByteArray.data_append]; simp
theorem nil_app (t : ByteArray) : (⟨#[]⟩ : ByteArray) ++ t = t := by
  cases t
  apply ByteArray.ext
  rw [ByteArray.data_append]; simp
theorem app_assoc (a b c : ByteArray) : a ++ b ++ c = a ++ (b ++ c) := by
  apply ByteArray.ext
  simp [ByteArray.data_append]
theorem ext_left (a b : ByteArray) (n : Nat) (h : a.size = n) : (a ++ b).extract 0 n = a := by
  subst h
  apply ByteArray.ext
  apply Array.toList_inj.1
  rw [ByteArray.data_extract, Array.toList_extract, ByteArray.data_append, Array.toList_append]
  have e : a.size = a.data.toList.length := by rw [Array.length_toList]; rfl
  rw [List.extract, List.drop_zero, Nat.sub_zero, e, List.take_left']; rfl
theorem ext_right (a b : ByteArray) (n m : Nat) (h : a.size = n) (hm : m = n + b.size) : (a ++ b).extract n m = b := by
  subst h hm
  apply ByteArray.ext
  apply Array.toList_inj.1
  rw [ByteArray.data_extract, Array.toList_extract, ByteArray.data_append, Array.toList_append]
  have e : a.size = a.data.toList.length := by rw [Array.length_toList]; rfl
  have e2 : b.size = b.data.toList.length := by rw [Array.length_toList]; rfl
  rw [List.extract, Nat.add_sub_cancel_left, e, List.drop_left', e2, List.take_length]; rfl
theorem okJ_size : ∀ {l : List ByteArray}, okJ l = true → l ≠ [] → 1 ≤ (catB l).size ∧ (catB l).size ≤ 16 * l.length
  | [], _, h => absurd rfl h
  | t :: l, h, _ => by
    simp only [okJ, Bool.and_eq_true, decide_eq_true_eq] at h
    rw [catB_size]
    by_cases hl : l = []
    · subst hl
      have : (catB []).size = 0 := rfl
      simp only [List.length_cons, List.length_nil]; omega
    · have := okJ_size h.2.2 hl
      simp only [List.length_cons]; omega
theorem split_cat : ∀ (l : List ByteArray) (f : Nat), okJ l = true → l ≠ [] → l.length ≤ f + 1 → splitL f (catB l) = l
  | [], _, _, h, _ => absurd rfl h
  | [t], f, h, _, _ => by
    simp only [okJ, Bool.and_eq_true, decide_eq_true_eq] at h
    have e : catB [t] = t := app_nil t
    rw [e]
    cases f with
    | zero => rfl
    | succ f => unfold splitL; rw [if_neg (by omega)]
  | t :: u :: r, f, h, _, hf => by
    simp only [okJ, Bool.and_eq_true, decide_eq_true_eq, List.isEmpty_cons, Bool.false_or] at h
    cases f with
    | zero => simp at hf
    | succ f =>
      have hk : okJ (u :: r) = true := by simp only [okJ, Bool.and_eq_true, decide_eq_true_eq]; exact h.2.2
      have hs := okJ_size hk (by simp)
      have ih := split_cat (u :: r) f hk (by simp) (by simpa using hf)
      show splitL (f + 1) (t ++ catB (u :: r)) = _
      unfold splitL
      have e0 : (t ++ catB (u :: r)).size = 16 + (catB (u :: r)).size := by rw [ByteArray.size_append]; omega
      rw [if_pos (by omega), e0, ext_left _ _ 16 h.2.1, ext_right _ _ 16 _ h.2.1 rfl, ih]
theorem splitL_ne : ∀ (f : Nat) (s : ByteArray), (splitL f s).isEmpty = false
  | 0, _ => rfl
  | f + 1, s => by unfold splitL; split <;> rfl
theorem ok_split : ∀ (f : Nat) (s : ByteArray), 1 ≤ s.size → s.size ≤ 16 * (f + 1) → okJ (splitL f s) = true
  | 0, s, h1, h2 => by
    simp only [splitL, okJ, List.isEmpty_nil, Bool.true_or, Bool.and_true, decide_eq_true_eq]; omega
  | f + 1, s, h1, h2 => by
    unfold splitL
    split
    · have := ok_split f (s.extract 16 s.size) (by simp only [ByteArray.size_extract]; omega) (by simp only [ByteArray.size_extract]; omega)
      simp only [okJ, this, splitL_ne, Bool.false_or, Bool.and_true, Bool.and_eq_true, decide_eq_true_eq, ByteArray.size_extract]; omega
    · simp only [okJ, List.isEmpty_nil, Bool.true_or, Bool.and_true, decide_eq_true_eq]; omega
/-- What JoinBody answers. -/
def joinV (l : List ByteArray) : ByteArray × Bool := if 1 ≤ l.length ∧ l.length ≤ 10 then (if okJ l then (catB l, true) else (⟨#[]⟩, false)) else (⟨#[]⟩, false)
theorem toList_nil (t : ByteArray) : t.toList = ([] : List UInt8) ↔ t.size = 0 := by
  rw [Go.ByteArray.toList_eq]
  cases t with
  | mk a => simp [ByteArray.size]

/-- What is left of a number when all texts of a list are taken from it; -1 as soon as it is not enough. -/
def szT : List ByteArray → Int → Int
  | [], a => a
  | t :: l, a => if a - (t.size : Int) < 0 then -1 else szT l (a - (t.size : Int))
theorem szT_cat : ∀ (l : List ByteArray) (a : Int), 0 ≤ a → 0 ≤ szT l a → ((catB l).size : Int) ≤ a
  | [], a, h, _ => by rw [show (catB []).size = 0 from rfl]; omega
  | t :: l, a, h, h2 => by
    unfold szT at h2
    split at h2
    · omega
    · have := szT_cat l (a - (t.size : Int)) (by omega) h2
      rw [catB_size]; omega
theorem laws_szStringS_l0 (l : List ByteArray) (hl : l.length ≤ 1048576) (hs : ∀ s ∈ l, s.size ≤ 9223372036854775807) : ∀ (d i : Nat) (a : Int), i + d = l.length → 0 ≤ a → a ≤ 1048576 → Ev (fun k => laws_szStringS.l0 k l a (i : Int)) (szT (l.drop i) a) := by
  intro d
  induction d with
  | zero =>
    intro i a hi _ _
    obtain rfl : i = l.length := by omega
    rw [List.drop_length]
    exact Ev.step (f := fun _ => some a) (fun k => by rw [laws_szStringS.l0.eq_2, if_neg (by omega)]) (Ev.now _)
  | succ d ih =>
    intro i a hi h0 h1
    have hlt : i < l.length := by omega
    have hx := hs _ (List.getElem_mem hlt)
    rw [List.drop_eq_getElem_cons hlt]
    unfold szT
    have hw : wrap64 (a - (l[i].size : Int)) = a - (l[i].size : Int) := wrap_id (by omega) (by omega)
    by_cases hn : a - (l[i].size : Int) < 0
    · rw [if_pos hn]
      exact Ev.step (f := fun _ => some (-1)) (fun k => by rw [laws_szStringS.l0.eq_2, if_pos (by omega), if_pos (by omega), rdOf_nat _ l i hlt, hw, if_pos hn]) (Ev.now _)
    · rw [if_neg hn]
      refine Ev.step (f := fun k => laws_szStringS.l0 k l (a - (l[i].size : Int)) ((i + 1 : Nat) : Int)) (fun k => ?_) (ih (i + 1) (a - (l[i].size : Int)) (by omega) (by omega) (by omega))
      rw [laws_szStringS.l0.eq_2, if_pos (by omega), if_pos (by omega), rdOf_nat _ l i hlt, hw, if_neg hn, wrap_succ2 i (by omega)]
theorem laws_szStringS_ev (l : List ByteArray) (hl : l.length ≤ 9223372036854775807) (hs : ∀ s ∈ l, s.size ≤ 9223372036854775807) : Ev (fun k => laws_szStringS.f k l 1048576) (if l.length ≤ 1048576 then szT l (1048576 - (l.length : Int)) else -1) := by
  unfold laws_szStringS.f
  rw [wrap_id (n := 1048576 - (l.length : Int)) (by omega) (by omega)]
  by_cases h : l.length ≤ 1048576
  · simp only [if_pos h, if_neg (show ¬ 1048576 - (l.length : Int) < 0 by omega)]
    exact laws_szStringS_l0 l h hs l.length 0 _ (by omega) (by omega) (by omega)
  · simp only [if_neg h, if_pos (show 1048576 - (l.length : Int) < 0 by omega)]
    exact Ev.now _

theorem spec_l1In_eq (a b c : Int) : spec_l1In.f a b c = some (decide (b ≤ a ∧ a ≤ c)) := by
  unfold spec_l1In.f
  by_cases h : a ≥ b
  · rw [if_pos h]; congr 1; simp [show b ≤ a from h]
  · rw [if_neg h]; congr 1; simp; omega

/-- Is a number of 32 bits? -/
def isS (a : Int) : Bool := decide (0 ≤ a ∧ a ≤ 4294967295)
theorem isS_nat {a : Int} (h : isS a = true) : ∃ n : Nat, a = (n : Int) ∧ n < 2 ^ 32 := by
  simp only [isS, decide_eq_true_eq] at h
  exact ⟨a.toNat, by omega, by omega⟩
def isL (a : Int) : Bool := decide (0 ≤ a ∧ a ≤ 400)
theorem isL_nat {a : Int} (h : isL a = true) : ∃ n : Nat, a = (n : Int) ∧ n ≤ 400 := by
  simp only [isL, decide_eq_true_eq] at h
  exact ⟨a.toNat, by omega, by omega⟩

theorem son_append (xs ys : List Int) : strOfNums (xs ++ ys) = strOfNums xs ++ strOfNums ys := by
  apply ByteArray.ext
  rw [ByteArray.data_append]
  simp [strOfNums]
theorem son_bytesOf (s : ByteArray) : strOfNums (bytesOf s) = s := by
  apply ByteArray.ext
  apply Array.toList_inj.1
  show (List.map (fun n : Int => UInt8.ofNat n.toNat) (bytesOf s)) = s.data.toList
  unfold bytesOf
  rw [List.map_map]
  conv => rhs; rw [← List.map_id s.data.toList]
  refine List.map_congr_left fun b _ => ?_
  show UInt8.ofNat ((b.toNat : Int).toNat) = b
  rw [Int.toNat_natCast]
  exact UInt8.ofNat_toNat
theorem son_size (xs : List Int) : (strOfNums xs).size = xs.length := by simp [strOfNums, ByteArray.size]
/-- The first 24 bytes of a frame. -/
def hdL (k a e : Int) (b : ByteArray) : List Int := [k % 256, a / 256 % 256, a % 256, e / 256 % 256, e % 256, (b.size : Int) % 256] ++ bytesOf b ++ List.replicate (18 - b.size) 0
def lowL (n : Int) : List Int := [n % 256, n / 256 % 256, n / 65536 % 256, n / 16777216 % 256]
theorem lowL_length (n : Int) : (lowL n).length = 4 := rfl
theorem hdL_length (k a e : Int) (b : ByteArray) (h : b.size ≤ 16) : (hdL k a e b).length = 24 := by
  unfold hdL
  simp only [List.length_append, List.length_cons, List.length_nil, bytesOf_length, List.length_replicate]
  omega
/-- A frame's bytes. -/
def frB (k a e : Int) (b : ByteArray) : ByteArray := strOfNums (hdL k a e b ++ lowL ((Crc.sumL 0 (Crc.bl (strOfNums (hdL k a e b))) : Nat) : Int))
theorem frB_size (k a e : Int) (b : ByteArray) (h : b.size ≤ 16) : (frB k a e b).size = 28 := by
  unfold frB
  rw [son_size, List.length_append, hdL_length k a e b h]; rfl
/-- Is a frame good? -/
def goodF (k a e : Int) (b : ByteArray) : Bool := decide (1 ≤ k ∧ k ≤ 255) && (decide (0 ≤ a ∧ a ≤ 60000) && (decide (0 ≤ e ∧ e ≤ 60000) && decide (b.size ≤ 16)))
theorem goodF_bd {k a e : Int} {b : ByteArray} (h : goodF k a e b = true) : 1 ≤ k ∧ k ≤ 255 ∧ 0 ≤ a ∧ a ≤ 60000 ∧ 0 ≤ e ∧ e ≤ 60000 ∧ b.size ≤ 16 := by
  simp only [goodF, Bool.and_eq_true, decide_eq_true_eq] at h
  obtain ⟨⟨h1, h2⟩, ⟨h3, h4⟩, ⟨h5, h6⟩, h7⟩ := h
  exact ⟨h1, h2, h3, h4, h5, h6, h7⟩
theorem size_dec (b : ByteArray) : decide ((b.size : Int) ≤ 16) = decide (b.size ≤ 16) := decide_eq_decide.2 (by omega)

theorem spec_GoodFrame_eq (k a e : Int) (b : ByteArray) : spec_GoodFrame.f k a e b = some (goodF k a e b) := by
  unfold spec_GoodFrame.f goodF
  simp only [spec_l1In_eq, Option.bind_some, size_dec]
  cases decide (1 ≤ k ∧ k ≤ 255) <;> cases decide (0 ≤ a ∧ a ≤ 60000) <;> cases decide (0 ≤ e ∧ e ≤ 60000) <;> rfl

theorem w_m1 : wrap64 (0 - 1) = -1 := wrap_id (by omega) (by omega)
theorem w_0 : wrap64 (1 - 1) = 0 := wrap_id (by omega) (by omega)
theorem w_1 : wrap64 (2 - 1) = 1 := wrap_id (by omega) (by omega)
theorem spec_l6Bytes_one (n : Int) : Ev (fun k => spec_l6Bytes.f k n 1) (strOfNums [n % 256]) := by
  refine Ev.congr (f := fun k => spec_l6Bytes.l0 k n [0] 0) (fun k => ?_) ?_
  · unfold spec_l6Bytes.f
    rw [if_pos (by omega), if_pos (by decide), w_0]; rfl
  refine Ev.step (f := fun k => spec_l6Bytes.l0 k (n / 256) [n % 256] (-1)) (fun k => ?_) ?_
  · rw [spec_l6Bytes.l0.eq_2, if_pos (by omega), if_pos (by omega), if_pos (by simp), w_m1]; rfl
  · exact Ev.step (f := fun _ => some (strOfNums [n % 256])) (fun k => by rw [spec_l6Bytes.l0.eq_2, if_neg (by omega)]) (Ev.now _)
theorem spec_l6Bytes_two (n : Int) : Ev (fun k => spec_l6Bytes.f k n 2) (strOfNums [n / 256 % 256, n % 256]) := by
  refine Ev.congr (f := fun k => spec_l6Bytes.l0 k n [0, 0] 1) (fun k => ?_) ?_
  · unfold spec_l6Bytes.f
    rw [if_pos (by omega), if_pos (by decide), w_1]; rfl
  refine Ev.step (f := fun k => spec_l6Bytes.l0 k (n / 256) [0, n % 256] 0) (fun k => ?_) ?_
  · rw [spec_l6Bytes.l0.eq_2, if_pos (by omega), if_pos (by omega), if_pos (by simp), w_0]; rfl
  refine Ev.step (f := fun k => spec_l6Bytes.l0 k (n / 256 / 256) [n / 256 % 256, n % 256] (-1)) (fun k => ?_) ?_
  · rw [spec_l6Bytes.l0.eq_2, if_pos (by omega), if_pos (by omega), if_pos (by simp), w_m1]; rfl
  · exact Ev.step (f := fun _ => some (strOfNums [n / 256 % 256, n % 256])) (fun k => by rw [spec_l6Bytes.l0.eq_2, if_neg (by omega)]) (Ev.now _)

theorem u8_i (i : Int) (h0 : 0 ≤ i) (h4 : i < 4) : IntKind.u64.wrap (wrap64 (8 * i)) = 8 * i := by
  rw [wrap_id (by omega) (by omega), IntKind.wrap_u64]; omega
theorem spec_l6Low_ev (n : Int) : Ev (fun k => spec_l6Low.f k n) (strOfNums (lowL n)) := by
  unfold spec_l6Low.f
  have st : ∀ (i : Int) (s : ByteArray) (d : Int), 0 ≤ i → i < 4 → s.size ≤ 100 → shr .i64 n (8 * i) = d →
      ∀ R, Ev (fun k => spec_l6Low.l0 k n (s ++ strOfNums [d % 256]) (i + 1)) R → Ev (fun k => spec_l6Low.l0 k n s i) R := by
    intro i s d h0 h4 hs hd R h
    have ew : wrap64 (i + 1) = i + 1 := wrap_id (by omega) (by omega)
    have hu : 0 ≤ 8 * i := by omega
    refine Ev.step (fun k => spec_l6Low.l0.eq_2 _ _ _ k) ?_
    simp only [u8_i i h0 h4, if_pos h4, if_pos hu, hd, ew]
    refine Ev.bind (spec_l6Bytes_one d) ?_
    exact Ev.congr (f := fun k => spec_l6Low.l0 k n (s ++ strOfNums [d % 256]) (i + 1)) (fun k => if_pos (by rw [son_size]; simp; omega)) h
  have q0 : (2 : Int) ^ min (8 * 0 : Int).toNat IntKind.i64.bits = 1 := by decide
  have q1 : (2 : Int) ^ min (8 * 1 : Int).toNat IntKind.i64.bits = 256 := by decide
  have q2 : (2 : Int) ^ min (8 * 2 : Int).toNat IntKind.i64.bits = 65536 := by decide
  have q3 : (2 : Int) ^ min (8 * 3 : Int).toNat IntKind.i64.bits = 16777216 := by decide
  have s1 : ∀ n : Int, (strOfNums [n]).size = 1 := fun n => son_size _
  have s0 : (⟨#[]⟩ : ByteArray).size = 0 := rfl
  refine st 0 ⟨#[]⟩ n (by decide) (by decide) (by decide) (by unfold shr; rw [q0]; omega) _ ?_
  refine st 1 _ (n / 256) (by decide) (by decide) (by rw [ByteArray.size_append, s1, s0]; decide) (by unfold shr; rw [q1]) _ ?_
  refine st 2 _ (n / 65536) (by decide) (by decide) (by rw [ByteArray.size_append, ByteArray.size_append, s1, s1, s0]; decide) (by unfold shr; rw [q2]) _ ?_
  refine st 3 _ (n / 16777216) (by decide) (by decide) (by rw [ByteArray.size_append, ByteArray.size_append, ByteArray.size_append, s1, s1, s1, s0]; decide) (by unfold shr; rw [q3]) _ ?_
  have e : ((((⟨#[]⟩ : ByteArray) ++ strOfNums [n % 256]) ++ strOfNums [n / 256 % 256]) ++ strOfNums [n / 65536 % 256]) ++ strOfNums [n / 16777216 % 256] = strOfNums (lowL n) := by
    rw [show (⟨#[]⟩ : ByteArray) = strOfNums [] from rfl, ← son_append, ← son_append, ← son_append, ← son_append]; rfl
  rw [e]
  exact Ev.step (f := fun _ => some (strOfNums (lowL n))) (fun k => by rw [spec_l6Low.l0.eq_2, if_neg (by omega)]) (Ev.now _)

theorem spec_l5Byte_l0 : ∀ (n x i : Nat), x < 2 ^ 32 → n + i = 8 → Ev (fun k => spec_l5Byte.l0 k (x : Int) (i : Int)) ((Crc.shN n x : Nat) : Int) := by
  intro n
  induction n with
  | zero =>
    intro x i _ hi
    obtain rfl : i = 8 := by omega
    exact Ev.step (f := fun _ => some ((x : Nat) : Int)) (fun k => by simp only [spec_l5Byte.l0]; rw [if_neg (by omega)]) (Ev.now _)
  | succ n ih =>
    intro x i hx hi
    have e1 : wrap64 ((i : Int) + 1) = ((i + 1 : Nat) : Int) := by rw [wrap_id (by omega) (by omega)]; omega
    have e2 : Go.bits .xor .i64 ((x / 2 : Nat) : Int) 2197175160 = (((x / 2) ^^^ 2197175160 : Nat) : Int) := xor_nat (a := x / 2) (b := 2197175160) (by omega) (by decide)
    have e4 := and_one (a := x) (by omega)
    refine Ev.step (f := fun k => spec_l5Byte.l0 k ((Crc.sh1 x : Nat) : Int) ((i + 1 : Nat) : Int)) (fun k => ?_) (ih _ _ (Crc.sh1_lt hx) (by omega))
    simp only [spec_l5Byte.l0, e1, half_nat, e2, e4, Crc.sh1]
    rw [if_pos (by omega)]
    by_cases h1 : x % 2 = 1
    · rw [if_pos (show ((x % 2 : Nat) : Int) = 1 by omega), if_pos h1]
    · rw [if_neg (show ¬ ((x % 2 : Nat) : Int) = 1 by omega), if_neg h1]
theorem spec_l5Byte_ev (x : Nat) (hx : x < 2 ^ 32) : Ev (fun k => spec_l5Byte.f k (x : Int)) ((Crc.shN 8 x : Nat) : Int) := spec_l5Byte_l0 8 x 0 hx rfl

theorem spec_l5On_l0 (s : ByteArray) (hs : s.size ≤ 140737488351232) : ∀ (d x i : Nat), x < 2 ^ 32 → i + d = s.size → Ev (fun k => spec_l5On.l0 k (x : Int) s (i : Int)) ((Crc.crcL ((Crc.bl s).drop i) x ^^^ Crc.ones : Nat) : Int) := by
  intro d
  induction d with
  | zero =>
    intro x i hx hi
    obtain rfl : i = s.size := by omega
    have e : Go.bits .xor .i64 (x : Int) 4294967295 = ((x ^^^ Crc.ones : Nat) : Int) := xor_nat (a := x) (b := 4294967295) (by omega) (by decide)
    rw [Crc.bl_end]
    exact Ev.step (f := fun _ => some ((x ^^^ Crc.ones : Nat) : Int)) (fun k => by simp only [spec_l5On.l0]; rw [if_neg (by omega), e]) (Ev.now _)
  | succ d ih =>
    intro x i hx hi
    have hlt : i < s.size := by omega
    have e1 : wrap64 ((i : Int) + 1) = ((i + 1 : Nat) : Int) := by rw [wrap_id (by omega) (by omega)]; omega
    rw [Crc.bl_drop s i hlt]
    have hc : (Crc.bl s)[i]'(by rw [Crc.bl_length]; exact hlt) < 256 := Crc.bl_lt s _ (List.getElem_mem _)
    have e2 := Crc.bt_bl s i hlt
    generalize (Crc.bl s)[i]'(by rw [Crc.bl_length]; exact hlt) = c at hc e2 ⊢
    have e3 : wrap64 (bt s (i : Int)) = ((c : Nat) : Int) := by rw [e2]; exact wrap_id (by omega) (by omega)
    have e4 : Go.bits .xor .i64 (x : Int) (c : Int) = ((x ^^^ c : Nat) : Int) := xor_nat (by omega) (by omega)
    have hx' : x ^^^ c < 2 ^ 32 := Nat.xor_lt_two_pow hx (by omega)
    refine Ev.step (f := fun k => (spec_l5Byte.f k ((x ^^^ c : Nat) : Int)).bind fun t => spec_l5On.l0 k t s ((i + 1 : Nat) : Int)) (fun k => ?_) ?_
    · simp only [spec_l5On.l0, e1, e3, e4]
      rw [if_pos (by omega), if_pos (by omega)]
    · exact Ev.bind (f := fun k t => spec_l5On.l0 k t s ((i + 1 : Nat) : Int)) (spec_l5Byte_ev _ hx') (ih _ _ (Crc.shN_lt 8 hx') (by omega))
theorem spec_l5On_ev (x : Nat) (s : ByteArray) (hs : s.size ≤ 140737488351232) (hx : x < 2 ^ 32) : Ev (fun k => spec_l5On.f k (x : Int) s) ((Crc.sumL x (Crc.bl s) : Nat) : Int) := by
  have e : Go.bits .xor .i64 (x : Int) 4294967295 = ((x ^^^ Crc.ones : Nat) : Int) := xor_nat (a := x) (b := 4294967295) (by omega) (by decide)
  unfold spec_l5On.f
  rw [e]
  exact spec_l5On_l0 s hs s.size _ 0 (Nat.xor_lt_two_pow hx (by decide)) (by omega)

theorem spec_l6Frame_ev (k a e : Int) (b : ByteArray) (hb : b.size ≤ 16) : Ev (fun r => spec_l6Frame.f r k a e b) (frB k a e b) := by
  have ew : wrap64 (wrap64 (16 - (b.size : Int)) + 2) = ((18 - b.size : Nat) : Int) := by rw [wrap_id (n := 16 - (b.size : Int)) (by omega) (by omega), wrap_id (by omega) (by omega)]; omega
  have z1 : (0 : Int) ≤ ((18 - b.size : Nat) : Int) := by omega
  have z2 : ((18 - b.size : Nat) : Int).toNat ≤ 281474976710656 := by rw [Int.toNat_natCast]; omega
  have one : ∀ n : Int, (strOfNums [n]).size = 1 := fun n => son_size _
  have two : ∀ m n : Int, (strOfNums [m, n]).size = 2 := fun m n => son_size _
  have zz : (strOfNums (List.replicate (18 - b.size) 0)).size = 18 - b.size := by rw [son_size, List.length_replicate]
  have eh : strOfNums [k % 256] ++ strOfNums [a / 256 % 256, a % 256] ++ strOfNums [e / 256 % 256, e % 256] ++ strOfNums [(b.size : Int) % 256] ++ b ++ strOfNums (List.replicate (18 - b.size) 0) = strOfNums (hdL k a e b) := by
    unfold hdL
    rw [son_append, son_append, son_bytesOf, ← son_append, ← son_append, ← son_append]; rfl
  unfold spec_l6Frame.f
  refine Ev.bind (spec_l6Bytes_one k) ?_
  refine Ev.bind (spec_l6Bytes_two a) ?_
  refine Ev.congr (f := fun r => (spec_l6Bytes.f r e 2).bind fun t3 => if (strOfNums [k % 256] ++ strOfNums [a / 256 % 256, a % 256]).size + t3.size ≤ 9223372036854775807 then ((spec_l6Bytes.f r (b.size : Int) 1).bind fun t4 => (if ((strOfNums [k % 256] ++ strOfNums [a / 256 % 256, a % 256]) ++ t3).size + t4.size ≤ 9223372036854775807 then (if (((strOfNums [k % 256] ++ strOfNums [a / 256 % 256, a % 256]) ++ t3) ++ t4).size + b.size ≤ 9223372036854775807 then (if 0 ≤ (wrap64 ((wrap64 (16 - (b.size : Int))) + 2)) then (if (wrap64 ((wrap64 (16 - (b.size : Int))) + 2) : Int).toNat ≤ 281474976710656 then ((some (List.replicate (wrap64 ((wrap64 (16 - (b.size : Int))) + 2) : Int).toNat 0 : List Int)).bind fun y => (if ((((strOfNums [k % 256] ++ strOfNums [a / 256 % 256, a % 256]) ++ t3) ++ t4) ++ b).size + (strOfNums y).size ≤ 9223372036854775807 then ((spec_l5On.f r 0 (((((strOfNums [k % 256] ++ strOfNums [a / 256 % 256, a % 256]) ++ t3) ++ t4) ++ b) ++ (strOfNums y))).bind fun u => ((spec_l6Low.f r u).bind fun v => (if (((((strOfNums [k % 256] ++ strOfNums [a / 256 % 256, a % 256]) ++ t3) ++ t4) ++ b) ++ (strOfNums y)).size + v.size ≤ 9223372036854775807 then (some ((((((strOfNums [k % 256] ++ strOfNums [a / 256 % 256, a % 256]) ++ t3) ++ t4) ++ b) ++ (strOfNums y)) ++ v)) else (none)))) else (none))) else (none)) else (none)) else (none)) else (none))) else none) (fun r => if_pos (by rw [one, two]; omega)) ?_
  refine Ev.bind (spec_l6Bytes_two e) ?_
  refine Ev.congr (f := fun r => (spec_l6Bytes.f r (b.size : Int) 1).bind fun t4 => (if ((strOfNums [k % 256] ++ strOfNums [a / 256 % 256, a % 256]) ++ strOfNums [e / 256 % 256, e % 256]).size + t4.size ≤ 9223372036854775807 then (if (((strOfNums [k % 256] ++ strOfNums [a / 256 % 256, a % 256]) ++ strOfNums [e / 256 % 256, e % 256]) ++ t4).size + b.size ≤ 9223372036854775807 then (if 0 ≤ (wrap64 ((wrap64 (16 - (b.size : Int))) + 2)) then (if (wrap64 ((wrap64 (16 - (b.size : Int))) + 2) : Int).toNat ≤ 281474976710656 then ((some (List.replicate (wrap64 ((wrap64 (16 - (b.size : Int))) + 2) : Int).toNat 0 : List Int)).bind fun y => (if ((((strOfNums [k % 256] ++ strOfNums [a / 256 % 256, a % 256]) ++ strOfNums [e / 256 % 256, e % 256]) ++ t4) ++ b).size + (strOfNums y).size ≤ 9223372036854775807 then ((spec_l5On.f r 0 (((((strOfNums [k % 256] ++ strOfNums [a / 256 % 256, a % 256]) ++ strOfNums [e / 256 % 256, e % 256]) ++ t4) ++ b) ++ (strOfNums y))).bind fun u => ((spec_l6Low.f r u).bind fun v => (if (((((strOfNums [k % 256] ++ strOfNums [a / 256 % 256, a % 256]) ++ strOfNums [e / 256 % 256, e % 256]) ++ t4) ++ b) ++ (strOfNums y)).size + v.size ≤ 9223372036854775807 then (some ((((((strOfNums [k % 256] ++ strOfNums [a / 256 % 256, a % 256]) ++ strOfNums [e / 256 % 256, e % 256]) ++ t4) ++ b) ++ (strOfNums y)) ++ v)) else (none)))) else (none))) else (none)) else (none)) else (none)) else (none))) (fun r => if_pos (by rw [ByteArray.size_append, one, two, two]; omega)) ?_
  refine Ev.bind (spec_l6Bytes_one (b.size : Int)) ?_
  rw [ew]
  refine Ev.congr (f := fun r => (spec_l5On.f r 0 (strOfNums (hdL k a e b))).bind fun u => ((spec_l6Low.f r u).bind fun v => (if (strOfNums (hdL k a e b)).size + v.size ≤ 9223372036854775807 then (some (strOfNums (hdL k a e b) ++ v)) else (none)))) (fun r => ?_) ?_
  · rw [if_pos (by simp only [ByteArray.size_append, one, two]; omega), if_pos (by simp only [ByteArray.size_append, one, two]; omega), if_pos z1, if_pos z2, Option.bind_some, Int.toNat_natCast, if_pos (by simp only [ByteArray.size_append, one, two, zz]; omega), eh]
  · refine Ev.bind (spec_l5On_ev 0 (strOfNums (hdL k a e b)) (by rw [son_size, hdL_length k a e b hb]; omega) (by decide)) ?_
    refine Ev.bind (spec_l6Low_ev _) ?_
    refine Ev.congr (f := fun _ => some (frB k a e b)) (fun r => ?_) (Ev.now _)
    rw [if_pos (by rw [son_size, son_size, hdL_length k a e b hb, lowL_length]; omega)]
    unfold frB
    rw [son_append]

theorem bytes_ext {a b : ByteArray} (h : a.toList = b.toList) : a = b := by
  rw [Go.ByteArray.toList_eq, Go.ByteArray.toList_eq] at h
  cases a; cases b
  simp only [ByteArray.mk.injEq]
  exact Array.toList_inj.1 h

theorem or_add {c d : Int} (hc : 0 ≤ c ∧ c ≤ 65535) (hd : 0 ≤ d ∧ d ≤ 255) : Go.bits .or .i64 (wrap64 (c * 256)) (wrap64 d) = c * 256 + d := by
  obtain ⟨x, rfl⟩ := nat_of hc.1
  obtain ⟨y, rfl⟩ := nat_of hd.1
  rw [wrap_id (by omega) (by omega), wrap_id (by omega) (by omega), show ((x : Int) * 256) = ((2 ^ 8 * x : Nat) : Int) by omega, or_nat (by omega) (by omega), ← Nat.two_pow_add_eq_or_of_lt (by omega : y < 2 ^ 8)]
  omega
theorem bt_extract (s : ByteArray) (i j n : Nat) (h : i + n < j) (hj : j ≤ s.size) : bt (s.extract i j) (n : Int) = bt s ((i + n : Nat) : Int) := by
  have h1 : n < (s.extract i j).size := by rw [ByteArray.size_extract]; omega
  unfold bt
  rw [dif_pos (by rw [Int.toNat_natCast]; exact h1), dif_pos (by rw [Int.toNat_natCast]; omega)]
  simp only [Int.toNat_natCast, ByteArray.getElem_extract]
theorem bt_frB (k a e : Int) (b : ByteArray) (hb : b.size ≤ 16) : bt (frB k a e b) 5 = (b.size : Int) := by
  rw [← rd_bytesOf]
  unfold frB hdL bytesOf
  show ((UInt8.ofNat ((b.size : Int) % 256).toNat).toNat : Int) = _
  rw [UInt8.toNat_ofNat']
  omega
/-- What a frame's bytes say. -/
def readV (s : ByteArray) : Int × Int × Int × ByteArray × Int × Bool :=
  if (s.size : Int) = 28 then
    (if (strOfNums (lowL ((Crc.sumL 0 (Crc.bl (s.extract 0 24)) : Nat) : Int))).toList = (s.extract 24 s.size).toList then
      (if goodF (bt s 0) (bt s 1 * 256 + bt s 2) (bt s 3 * 256 + bt s 4) (s.extract 6 (6 + mn 16 (bt s 5)).toNat) = true then
        (if (frB (bt s 0) (bt s 1 * 256 + bt s 2) (bt s 3 * 256 + bt s 4) (s.extract 6 (6 + mn 16 (bt s 5)).toNat)).toList = s.toList then
          (bt s 0, bt s 1 * 256 + bt s 2, bt s 3 * 256 + bt s 4, s.extract 6 (6 + mn 16 (bt s 5)).toNat, 0, true)
        else (0, 0, 0, (⟨#[]⟩ : ByteArray), 3, false))
      else (0, 0, 0, (⟨#[]⟩ : ByteArray), 3, false))
    else (0, 0, 0, (⟨#[]⟩ : ByteArray), 2, false))
  else (0, 0, 0, (⟨#[]⟩ : ByteArray), 1, false)

theorem spec_l6Value_one (s : ByteArray) (hs : s.size = 1) : Ev (fun k => spec_l6Value.f k s) (bt s 0) := by
  have r0 := bt_range s 0
  have e0 : Go.bits .or .i64 (wrap64 (0 * 256)) (wrap64 (bt s 0)) = bt s 0 := by rw [or_add (by omega) r0]; omega
  have ew : wrap64 (0 + 1) = 1 := wrap_id (by omega) (by omega)
  refine Ev.step (f := fun k => spec_l6Value.l0 k s (bt s 0) 1) (fun k => ?_) ?_
  · unfold spec_l6Value.f; rw [spec_l6Value.l0.eq_2, if_pos (by omega), if_pos (by omega), e0, ew]
  · exact Ev.step (f := fun _ => some (bt s 0)) (fun k => by rw [spec_l6Value.l0.eq_2, if_neg (by omega)]) (Ev.now _)
theorem spec_l6Value_two (s : ByteArray) (hs : s.size = 2) : Ev (fun k => spec_l6Value.f k s) (bt s 0 * 256 + bt s 1) := by
  have r0 := bt_range s 0
  have r1 := bt_range s 1
  have e0 : Go.bits .or .i64 (wrap64 (0 * 256)) (wrap64 (bt s 0)) = bt s 0 := by rw [or_add (by omega) r0]; omega
  have e1 : Go.bits .or .i64 (wrap64 (bt s 0 * 256)) (wrap64 (bt s 1)) = bt s 0 * 256 + bt s 1 := or_add (by omega) r1
  have ew : wrap64 (0 + 1) = 1 := wrap_id (by omega) (by omega)
  have ew2 : wrap64 (1 + 1) = 2 := wrap_id (by omega) (by omega)
  refine Ev.step (f := fun k => spec_l6Value.l0 k s (bt s 0) 1) (fun k => ?_) ?_
  · unfold spec_l6Value.f; rw [spec_l6Value.l0.eq_2, if_pos (by omega), if_pos (by omega), e0, ew]
  refine Ev.step (f := fun k => spec_l6Value.l0 k s (bt s 0 * 256 + bt s 1) 2) (fun k => ?_) ?_
  · rw [spec_l6Value.l0.eq_2, if_pos (by omega), if_pos (by omega), e1, ew2]
  · exact Ev.step (f := fun _ => some (bt s 0 * 256 + bt s 1)) (fun k => by rw [spec_l6Value.l0.eq_2, if_neg (by omega)]) (Ev.now _)

theorem spec_ReadFrame_ev (s : ByteArray) : Ev (fun k => spec_ReadFrame.f k s) (readV s) := by
  unfold spec_ReadFrame.f readV
  by_cases hs : (s.size : Int) = 28
  rotate_left
  · simp only [if_neg hs]; exact Ev.now _
  have hz : s.size = 28 := by omega
  have r5 := bt_range s 5
  have x24 : (s.extract 0 24).size = 24 := by rw [ByteArray.size_extract]; omega
  have p1 : (0 : Int) ≤ 24 := by omega
  have p2 : (24 : Int) ≤ (s.size : Int) := by omega
  have p3 : (0 : Int) ≤ 1 := by omega
  have p4 : (1 : Int) ≤ (s.size : Int) := by omega
  have p5 : (1 : Int) ≤ 3 := by omega
  have p6 : (3 : Int) ≤ (s.size : Int) := by omega
  have p7 : (3 : Int) ≤ 5 := by omega
  have p8 : (5 : Int) ≤ (s.size : Int) := by omega
  have p9 : (5 : Int) < (s.size : Int) := by omega
  simp only [if_pos hs, if_pos p1, if_pos p2]
  refine Ev.bind (spec_l5On_ev 0 (s.extract 0 24) (by omega) (by decide)) ?_
  refine Ev.bind (spec_l6Low_ev _) ?_
  by_cases hl : (strOfNums (lowL ((Crc.sumL 0 (Crc.bl (s.extract 0 24)) : Nat) : Int))).toList = (s.extract 24 s.size).toList
  rotate_left
  · simp only [if_neg hl]; exact Ev.now _
  simp only [if_pos hl, if_pos p3, if_pos p4, if_pos p5, if_pos p6, if_pos p7, if_pos p8, if_pos p9]
  have E1 := spec_l6Value_one (s.extract 0 1) (by rw [ByteArray.size_extract]; omega)
  have E2 := spec_l6Value_two (s.extract 1 3) (by rw [ByteArray.size_extract]; omega)
  have E3 := spec_l6Value_two (s.extract 3 5) (by rw [ByteArray.size_extract]; omega)
  have q0 : bt (s.extract 0 1) 0 = bt s 0 := bt_extract s 0 1 0 (by omega) (by omega)
  have q1 : bt (s.extract 1 3) 0 = bt s 1 := bt_extract s 1 3 0 (by omega) (by omega)
  have q2 : bt (s.extract 1 3) 1 = bt s 2 := bt_extract s 1 3 1 (by omega) (by omega)
  have q3 : bt (s.extract 3 5) 0 = bt s 3 := bt_extract s 3 5 0 (by omega) (by omega)
  have q4 : bt (s.extract 3 5) 1 = bt s 4 := bt_extract s 3 5 1 (by omega) (by omega)
  rw [q0] at E1
  rw [q1, q2] at E2
  rw [q3, q4] at E3
  refine Ev.bind E1 ?_
  refine Ev.bind E2 ?_
  refine Ev.bind E3 ?_
  have w5 : wrap64 (bt s 5) = bt s 5 := wrap_id (by omega) (by omega)
  have w6 : wrap64 (6 + bt s 5) = 6 + bt s 5 := wrap_id (by omega) (by omega)
  simp only [w5, w6]
  by_cases h16 : bt s 5 > 16
  · have hm : mn 16 (bt s 5) = 16 := by unfold mn; rw [if_neg (by omega)]
    have hx : (s.extract 6 (6 + mn 16 (bt s 5)).toNat).size = 16 := by rw [hm, ByteArray.size_extract]; omega
    have hn : ¬ (frB (bt s 0) (bt s 1 * 256 + bt s 2) (bt s 3 * 256 + bt s 4) (s.extract 6 (6 + mn 16 (bt s 5)).toNat)).toList = s.toList := by
      intro h
      have := bt_frB (bt s 0) (bt s 1 * 256 + bt s 2) (bt s 3 * 256 + bt s 4) (s.extract 6 (6 + mn 16 (bt s 5)).toNat) (by omega)
      rw [bytes_ext h, hx] at this
      omega
    simp only [if_pos h16, if_neg hn, ite_self]
    exact Ev.now _
  · have hm : mn 16 (bt s 5) = bt s 5 := by unfold mn; split <;> omega
    have p10 : (6 : Int) ≤ 6 + bt s 5 := by omega
    have p11 : 6 + bt s 5 ≤ (s.size : Int) := by omega
    simp only [if_neg h16, if_pos p10, if_pos p11, hm, spec_GoodFrame_eq, Option.bind_some]
    cases hg : goodF (bt s 0) (bt s 1 * 256 + bt s 2) (bt s 3 * 256 + bt s 4) (s.extract 6 (6 + bt s 5).toNat)
    · simp only [Bool.false_eq_true, if_false]; exact Ev.now _
    · simp only [if_true]
      refine Ev.bind (spec_l6Frame_ev _ _ _ _ (goodF_bd hg).2.2.2.2.2.2) ?_
      split <;> exact Ev.now _

def checkV (s : ByteArray) (a1 a2 a3 : Int) : Int × Int × Int × ByteArray × Int × Bool :=
  if (readV s).2.2.2.2.2 = true then (if (readV s).1 = a1 then (if (readV s).2.1 = a2 then (if (readV s).2.2.1 < a3 then (0, 0, 0, (⟨#[]⟩ : ByteArray), 5, false) else ((readV s).1, (readV s).2.1, (readV s).2.2.1, (readV s).2.2.2.1, 0, true)) else (0, 0, 0, (⟨#[]⟩ : ByteArray), 4, false)) else (0, 0, 0, (⟨#[]⟩ : ByteArray), 3, false)) else (0, 0, 0, (⟨#[]⟩ : ByteArray), (readV s).2.2.2.2.1, false)
theorem readV_code (s : ByteArray) : ((readV s).2.2.2.2.2 = true → (readV s).2.2.2.2.1 = 0) ∧ ((readV s).2.2.2.2.2 = false → ¬ (readV s).2.2.2.2.1 = 0) := by
  unfold readV
  repeat' split
  all_goals simp

theorem spec_CheckFrame_ev (s : ByteArray) (a1 a2 a3 : Int) : Ev (fun k => spec_CheckFrame.f k s a1 a2 a3) (checkV s a1 a2 a3) := by
  unfold spec_CheckFrame.f checkV
  refine Ev.bind (spec_ReadFrame_ev s) ?_
  repeat' split
  all_goals exact Ev.now _

theorem spec_JoinBody_l0 (l : List ByteArray) (hl : l.length ≤ 10) : ∀ (d i : Nat) (acc : ByteArray), i + d = l.length → acc.size ≤ 16 * i →
    Ev (fun k => spec_JoinBody.l0 k l acc l (l.length : Int) (i : Int)) (if okJ (l.drop i) then (acc ++ catB (l.drop i), true) else (⟨#[]⟩, false)) := by
  intro d
  induction d with
  | zero =>
    intro i acc hi ha
    obtain rfl : i = l.length := by omega
    have e : (if okJ (l.drop l.length) then (acc ++ catB (l.drop l.length), true) else ((⟨#[]⟩ : ByteArray), false)) = (acc, true) := by
      rw [List.drop_length, show okJ [] = true from rfl, if_pos rfl, show catB [] = ⟨#[]⟩ from rfl, app_nil]
    rw [e]
    exact Ev.step (f := fun _ => some (acc, true)) (fun k => by simp only [spec_JoinBody.l0]; rw [if_neg (by omega)]) (Ev.now _)
  | succ d ih =>
    intro i acc hi ha
    have hlt : i < l.length := by omega
    have hw : wrap64 ((l.length : Int) - 1) = ((l.length - 1 : Nat) : Int) := by rw [wrap_id (by omega) (by omega)]; omega
    have hem : (l.drop (i + 1)).isEmpty = decide (i + 1 = l.length) := by
      rw [Bool.eq_iff_iff, List.isEmpty_iff, decide_eq_true_eq, List.drop_eq_nil_iff]; omega
    rw [List.drop_eq_getElem_cons hlt]
    have hstep : ∀ {v : ByteArray × Bool}, Ev (fun k => (if l[i].toList = ([] : List UInt8) then some ((⟨#[]⟩ : ByteArray), false) else if (l[i].size : Int) > 16 then some ((⟨#[]⟩ : ByteArray), false) else if (i : Int) < ((l.length - 1 : Nat) : Int) then (if (l[i].size : Int) < 16 then some ((⟨#[]⟩ : ByteArray), false) else if acc.size + l[i].size ≤ 9223372036854775807 then spec_JoinBody.l0 k l (acc ++ l[i]) l (l.length : Int) ((i + 1 : Nat) : Int) else none) else if acc.size + l[i].size ≤ 9223372036854775807 then spec_JoinBody.l0 k l (acc ++ l[i]) l (l.length : Int) ((i + 1 : Nat) : Int) else none)) v → Ev (fun k => spec_JoinBody.l0 k l acc l (l.length : Int) (i : Int)) v := by
      intro v h
      refine Ev.step (fun k => ?_) h
      simp only [spec_JoinBody.l0, rdOf_nat _ l i hlt, wrap_succ2 i (by omega), hw]
      rw [if_pos (by omega), if_pos (by omega), if_pos (by omega)]
    apply hstep
    show Ev _ (if okJ (l[i] :: l.drop (i + 1)) then (acc ++ (l[i] ++ catB (l.drop (i + 1))), true) else (⟨#[]⟩, false))
    generalize l[i] = t
    have ihh := fun (hs : t.size ≤ 16) => ih (i + 1) (acc ++ t) (by omega) (by rw [ByteArray.size_append]; omega)
    rw [app_assoc] at ihh
    simp only [okJ, hem]
    by_cases h1 : t.size = 0
    · simp only [if_pos ((toList_nil t).2 h1)]
      rw [decide_eq_false (by omega), Bool.false_and]
      exact Ev.now _
    simp only [if_neg (fun h => h1 ((toList_nil t).1 h))]
    by_cases h2 : t.size ≤ 16
    rotate_left
    · simp only [if_pos (show (t.size : Int) > 16 by omega)]
      rw [decide_eq_false (by omega), Bool.false_and]
      exact Ev.now _
    simp only [if_neg (show ¬ (t.size : Int) > 16 by omega), if_pos (show acc.size + t.size ≤ 9223372036854775807 by omega)]
    rw [decide_eq_true (show 1 ≤ t.size ∧ t.size ≤ 16 by omega), Bool.true_and]
    by_cases h3 : i + 1 = l.length
    · simp only [if_neg (show ¬ (i : Int) < ((l.length - 1 : Nat) : Int) by omega)]
      rw [decide_eq_true h3, Bool.true_or, Bool.true_and]
      exact ihh h2
    · simp only [if_pos (show (i : Int) < ((l.length - 1 : Nat) : Int) by omega)]
      rw [decide_eq_false h3, Bool.false_or]
      by_cases h4 : t.size = 16
      · simp only [if_neg (show ¬ (t.size : Int) < 16 by omega)]
        rw [decide_eq_true h4, Bool.true_and]
        exact ihh h2
      · simp only [if_pos (show (t.size : Int) < 16 by omega)]
        rw [decide_eq_false h4, Bool.false_and]
        exact Ev.now _
theorem spec_JoinBody_ev (l : List ByteArray) : Ev (fun k => spec_JoinBody.f k l) (joinV l) := by
  unfold spec_JoinBody.f joinV
  simp only [spec_l1In_eq, Option.bind_some]
  by_cases h : 1 ≤ l.length ∧ l.length ≤ 10
  · have z : (1 : Int) ≤ (l.length : Int) ∧ (l.length : Int) ≤ 10 := by omega
    rw [if_pos h]
    simp only [decide_eq_true z, if_true]
    have := spec_JoinBody_l0 l h.2 l.length 0 ⟨#[]⟩ (by omega) (Nat.zero_le _)
    rwa [List.drop_zero, nil_app] at this
  · have z : ¬ ((1 : Int) ≤ (l.length : Int) ∧ (l.length : Int) ≤ 10) := by omega
    rw [if_neg h]
    simp only [decide_eq_false z]
    exact Ev.now _

/-- What ReadAll answers: the bodies of the frames, put together. -/
def raL (kd pl le : Int) : List ByteArray → Nat → List ByteArray → ByteArray × Int × Bool
  | [], _, acc => if (joinV acc).2 = true then ((joinV acc).1, 0, true) else ((⟨#[]⟩ : ByteArray), 3, false)
  | s :: l, i, acc => if (checkV s kd (wrap64 (pl + (i : Int))) le).2.2.2.2.2 = true then raL kd pl le l (i + 1) (acc ++ [(checkV s kd (wrap64 (pl + (i : Int))) le).2.2.2.1]) else ((⟨#[]⟩ : ByteArray), (checkV s kd (wrap64 (pl + (i : Int))) le).2.2.2.2.1, false)
def readAllV (l : List ByteArray) (kd pl le : Int) : ByteArray × Int × Bool := if 1 ≤ l.length ∧ l.length ≤ 10 then raL kd pl le l 0 [] else ((⟨#[]⟩ : ByteArray), 0, false)
theorem readV_body (s : ByteArray) : (readV s).2.2.2.1.size ≤ 16 := by
  unfold readV
  by_cases h1 : (s.size : Int) = 28
  rotate_left
  · rw [if_neg h1]; exact Nat.zero_le _
  rw [if_pos h1]
  split
  rotate_left
  · exact Nat.zero_le _
  split
  rotate_left
  · exact Nat.zero_le _
  rename_i hg
  split
  · exact (goodF_bd hg).2.2.2.2.2.2
  · exact Nat.zero_le _
theorem checkV_body (s : ByteArray) (a1 a2 a3 : Int) : (checkV s a1 a2 a3).2.2.2.1.size ≤ 16 := by
  have h := readV_body s
  unfold checkV
  repeat' split
  all_goals first | exact h | exact Nat.zero_le _
theorem catB_le : ∀ (l : List ByteArray), (∀ s ∈ l, s.size ≤ 16) → (catB l).size ≤ 16 * l.length
  | [], _ => Nat.le_refl _
  | t :: l, h => by
    have h1 := h t List.mem_cons_self
    have h2 := catB_le l (fun s hs => h s (List.mem_cons_of_mem _ hs))
    rw [catB_size, List.length_cons]; omega

theorem spec_ReadAll_l0 (kd pl le : Int) (l : List ByteArray) (hl : l.length ≤ 10) : ∀ (d i : Nat) (acc : List ByteArray), i + d = l.length → acc.length ≤ i →
    Ev (fun k => spec_ReadAll.l0 k kd pl le acc l (l.length : Int) (i : Int)) (raL kd pl le (l.drop i) i acc) := by
  intro d
  induction d with
  | zero =>
    intro i acc hi ha
    obtain rfl : i = l.length := by omega
    rw [List.drop_length]
    refine Ev.step (f := fun k => (spec_JoinBody.f k acc).bind fun b => if b.2 = true then some (b.1, (0 : Int), true) else some ((⟨#[]⟩ : ByteArray), (3 : Int), false)) (fun k => by rw [spec_ReadAll.l0.eq_2, if_neg (by omega)]) ?_
    refine Ev.bind (f := fun k b => if b.2 = true then some (b.1, (0 : Int), true) else some ((⟨#[]⟩ : ByteArray), (3 : Int), false)) (spec_JoinBody_ev acc) ?_
    unfold raL
    split <;> exact Ev.now _
  | succ d ih =>
    intro i acc hi ha
    have hlt : i < l.length := by omega
    rw [List.drop_eq_getElem_cons hlt]
    unfold raL
    refine Ev.step (f := fun k => (spec_CheckFrame.f k l[i] kd (wrap64 (pl + (i : Int))) le).bind fun b => if b.2.2.2.2.2 = true then (if acc.length < 8796093022208 then spec_ReadAll.l0 k kd pl le (acc ++ [b.2.2.2.1]) l (l.length : Int) ((i + 1 : Nat) : Int) else none) else some ((⟨#[]⟩ : ByteArray), b.2.2.2.2.1, false)) (fun k => by rw [spec_ReadAll.l0.eq_2, if_pos (by omega), if_pos (by omega), if_pos (by omega), rdOf_nat _ l i hlt, wrap_succ2 i (by omega)]) ?_
    refine Ev.bind (f := fun k b => if b.2.2.2.2.2 = true then (if acc.length < 8796093022208 then spec_ReadAll.l0 k kd pl le (acc ++ [b.2.2.2.1]) l (l.length : Int) ((i + 1 : Nat) : Int) else none) else some ((⟨#[]⟩ : ByteArray), b.2.2.2.2.1, false)) (spec_CheckFrame_ev l[i] kd (wrap64 (pl + (i : Int))) le) ?_
    generalize checkV l[i] kd (wrap64 (pl + (i : Int))) le = b
    by_cases hb : b.2.2.2.2.2 = true
    · simp only [if_pos hb, if_pos (show acc.length < 8796093022208 by omega)]
      exact ih (i + 1) _ (by omega) (by rw [List.length_append, List.length_singleton]; omega)
    · simp only [if_neg hb]
      exact Ev.now _
theorem spec_ReadAll_ev (l : List ByteArray) (kd pl le : Int) : Ev (fun k => spec_ReadAll.f k l kd pl le) (readAllV l kd pl le) := by
  unfold spec_ReadAll.f readAllV
  simp only [spec_l1In_eq, Option.bind_some]
  by_cases h : 1 ≤ l.length ∧ l.length ≤ 10
  · have z : (1 : Int) ≤ (l.length : Int) ∧ (l.length : Int) ≤ 10 := by omega
    rw [if_pos h]
    simp only [decide_eq_true z, if_true]
    exact spec_ReadAll_l0 kd pl le l h.2 l.length 0 [] (by omega) (Nat.zero_le _)
  · have z : ¬ ((1 : Int) ≤ (l.length : Int) ∧ (l.length : Int) ≤ 10) := by omega
    rw [if_neg h]
    simp only [decide_eq_false z]
    exact Ev.now _

theorem laws_toStringS_l0 (l : List ByteArray) (hl : l.length ≤ 1048576) : ∀ d i : Nat, i + d = l.length → Ev (fun k => laws_toStringS.l0 k l (l.take i ++ List.replicate (l.length - i) (⟨#[]⟩ : ByteArray)) (i : Int)) l := by
  intro d
  induction d with
  | zero =>
    intro i hi
    obtain rfl : i = l.length := by omega
    refine Ev.step (f := fun _ => some l) (fun k => ?_) (Ev.now _)
    rw [laws_toStringS.l0.eq_2, if_neg (by omega)]; simp
  | succ d ih =>
    intro i hi
    have hlt : i < l.length := by omega
    refine Ev.step (f := fun k => laws_toStringS.l0 k l (l.take (i + 1) ++ List.replicate (l.length - (i + 1)) (⟨#[]⟩ : ByteArray)) ((i + 1 : Nat) : Int)) (fun k => ?_) (ih (i + 1) (by omega))
    have e : (l.take i ++ List.replicate (l.length - i) (⟨#[]⟩ : ByteArray)).set i l[i] = l.take (i + 1) ++ List.replicate (l.length - (i + 1)) (⟨#[]⟩ : ByteArray) := by
      obtain ⟨m, hm⟩ : ∃ m, l.length - i = m + 1 := ⟨l.length - i - 1, by omega⟩
      have hm2 : l.length - (i + 1) = m := by omega
      rw [hm, hm2, List.replicate_succ, List.set_append_right _ _ (by rw [List.length_take]; omega), List.length_take, show i - min i l.length = 0 by omega, List.set_cons_zero, List.take_succ_eq_append_getElem hlt, List.append_assoc]; rfl
    rw [laws_toStringS.l0.eq_2, if_pos (by omega), if_pos (by omega), if_pos (by rw [List.length_append, List.length_take, List.length_replicate]; omega), rdOf_nat _ l i hlt, wrap_succ2 i (by omega), Int.toNat_natCast, e]
theorem laws_toStringS_ev (l : List ByteArray) (hl : l.length ≤ 1048576) : Ev (fun k => laws_toStringS.f k l) l := by
  unfold laws_toStringS.f
  have z1 : (0 : Int) ≤ (l.length : Int) := by omega
  have z2 : (l.length : Int).toNat ≤ 17592186044416 := by omega
  simp only [if_pos z1, if_pos z2]
  have := laws_toStringS_l0 l hl l.length 0 (by omega)
  simpa using this

theorem impl_GoodFrame_eq (k a e : Int) (b : ByteArray) : impl_GoodFrame.f k a e b = some (goodF k a e b) := by
  unfold impl_GoodFrame.f goodF
  simp only [impl_within_eq, Option.bind_some, size_dec]
  cases decide (1 ≤ k ∧ k ≤ 255) <;> cases decide (0 ≤ a ∧ a ≤ 60000) <;> cases decide (0 ≤ e ∧ e ≤ 60000) <;> rfl

theorem impl_turned_eq (x : Nat) (hx : x < 2 ^ 32) : impl_turned.f (x : Int) = some ((x ^^^ Crc.ones : Nat) : Int) := by
  have e : Go.bits .xor .i64 (x : Int) 4294967295 = ((x ^^^ Crc.ones : Nat) : Int) := xor_nat (a := x) (b := 4294967295) (by omega) (by decide)
  unfold impl_turned.f
  rw [e]

theorem impl_shifted_l0 : ∀ (n x i : Nat), x < 2 ^ 32 → n + i = 8 → Ev (fun k => impl_shifted.l0 k (x : Int) (i : Int)) ((Crc.shN n x : Nat) : Int) := by
  intro n
  induction n with
  | zero =>
    intro x i _ hi
    obtain rfl : i = 8 := by omega
    exact Ev.step (f := fun _ => some ((x : Nat) : Int)) (fun k => by simp only [impl_shifted.l0]; rw [if_neg (by omega)]) (Ev.now _)
  | succ n ih =>
    intro x i hx hi
    have e1 : wrap64 ((i : Int) + 1) = ((i + 1 : Nat) : Int) := by rw [wrap_id (by omega) (by omega)]; omega
    have e2 : Go.bits .xor .i64 ((x / 2 : Nat) : Int) 2197175160 = (((x / 2) ^^^ 2197175160 : Nat) : Int) := xor_nat (a := x / 2) (b := 2197175160) (by omega) (by decide)
    have e4 := and_one (a := x) (by omega)
    refine Ev.step (f := fun k => impl_shifted.l0 k ((Crc.sh1 x : Nat) : Int) ((i + 1 : Nat) : Int)) (fun k => ?_) (ih _ _ (Crc.sh1_lt hx) (by omega))
    simp only [impl_shifted.l0, e1, half_nat, e2, e4, Crc.sh1]
    rw [if_pos (by omega)]
    by_cases h1 : x % 2 = 1
    · rw [if_pos (show ((x % 2 : Nat) : Int) = 1 by omega), if_pos h1]
    · rw [if_neg (show ¬ ((x % 2 : Nat) : Int) = 1 by omega), if_neg h1]
theorem impl_shifted_ev (x : Nat) (hx : x < 2 ^ 32) : Ev (fun k => impl_shifted.f k (x : Int)) ((Crc.shN 8 x : Nat) : Int) := impl_shifted_l0 8 x 0 hx rfl

theorem impl_sumOn_l0 (s : ByteArray) (hs : s.size ≤ 140737488351232) : ∀ (d x i : Nat), x < 2 ^ 32 → i + d = s.size → Ev (fun k => impl_sumOn.l0 k (x : Int) s (s.size : Int) (i : Int)) ((Crc.crcL ((Crc.bl s).drop i) x ^^^ Crc.ones : Nat) : Int) := by
  intro d
  induction d with
  | zero =>
    intro x i hx hi
    obtain rfl : i = s.size := by omega
    rw [Crc.bl_end]
    exact Ev.step (f := fun _ => some ((x ^^^ Crc.ones : Nat) : Int)) (fun k => by simp only [impl_sumOn.l0]; rw [if_neg (by omega), impl_turned_eq x hx]; rfl) (Ev.now _)
  | succ d ih =>
    intro x i hx hi
    have hlt : i < s.size := by omega
    have e1 : wrap64 ((i : Int) + 1) = ((i + 1 : Nat) : Int) := by rw [wrap_id (by omega) (by omega)]; omega
    rw [Crc.bl_drop s i hlt]
    have hc : (Crc.bl s)[i]'(by rw [Crc.bl_length]; exact hlt) < 256 := Crc.bl_lt s _ (List.getElem_mem _)
    have e2 := Crc.bt_bl s i hlt
    generalize (Crc.bl s)[i]'(by rw [Crc.bl_length]; exact hlt) = c at hc e2 ⊢
    have e3 : wrap64 (bt s (i : Int)) = ((c : Nat) : Int) := by rw [e2]; exact wrap_id (by omega) (by omega)
    have e4 : Go.bits .xor .i64 (x : Int) (c : Int) = ((x ^^^ c : Nat) : Int) := xor_nat (by omega) (by omega)
    have hx' : x ^^^ c < 2 ^ 32 := Nat.xor_lt_two_pow hx (by omega)
    refine Ev.step (f := fun k => (impl_shifted.f k ((x ^^^ c : Nat) : Int)).bind fun t => impl_sumOn.l0 k t s (s.size : Int) ((i + 1 : Nat) : Int)) (fun k => ?_) ?_
    · simp only [impl_sumOn.l0, e1, e3, e4]
      rw [if_pos (by omega), if_pos (by omega), if_pos (by omega)]
    · exact Ev.bind (f := fun k t => impl_sumOn.l0 k t s (s.size : Int) ((i + 1 : Nat) : Int)) (impl_shifted_ev _ hx') (ih _ _ (Crc.shN_lt 8 hx') (by omega))
theorem impl_sumOn_ev (x : Nat) (s : ByteArray) (hs : s.size ≤ 140737488351232) (hx : x < 2 ^ 32) : Ev (fun k => impl_sumOn.f k (x : Int) s) ((Crc.sumL x (Crc.bl s) : Nat) : Int) := by
  unfold impl_sumOn.f
  simp only [impl_turned_eq x hx, Option.bind_some]
  exact impl_sumOn_l0 s hs s.size _ 0 (Nat.xor_lt_two_pow hx (by decide)) (by omega)

theorem impl_frameBytes_ev (k a e : Int) (b : ByteArray) (hb : b.size ≤ 16) : Ev (fun r => impl_frameBytes.f r k a e b) (frB k a e b) := by
  have ew : wrap64 (18 - (b.size : Int)) = ((18 - b.size : Nat) : Int) := by rw [wrap_id (by omega) (by omega)]; omega
  have z1 : (0 : Int) ≤ ((18 - b.size : Nat) : Int) := by omega
  have hl := hdL_length k a e b hb
  refine Ev.congr (f := fun r => (impl_sumOn.f r 0 (strOfNums (hdL k a e b))).bind fun t => if (hdL k a e b).length + (lowL t).length < 140737488355328 then some (strOfNums (hdL k a e b ++ lowL t)) else none) (fun r => ?_) ?_
  · unfold impl_frameBytes.f
    rw [Option.bind_some, if_pos (by simp; omega), Option.bind_some, ew, if_pos z1, if_pos (by rw [List.length_append, bytesOf_length, Int.toNat_natCast]; simp; omega), Option.bind_some, Int.toNat_natCast]
    rfl
  · refine Ev.bind (impl_sumOn_ev 0 (strOfNums (hdL k a e b)) (by rw [son_size, hl]; omega) (by decide)) ?_
    exact Ev.congr (f := fun _ => some (frB k a e b)) (fun r => if_pos (by rw [hl, lowL_length]; omega)) (Ev.now _)

theorem impl_ReadFrame_ev (s : ByteArray) : Ev (fun k => impl_ReadFrame.f k s) (readV s) := by
  unfold impl_ReadFrame.f readV
  by_cases hs : (s.size : Int) = 28
  rotate_left
  · simp only [if_neg hs]; exact Ev.now _
  have hz : s.size = 28 := by omega
  have r0 := bt_range s 0
  have r1 := bt_range s 1
  have r2 := bt_range s 2
  have r3 := bt_range s 3
  have r4 := bt_range s 4
  have r5 := bt_range s 5
  have x24 : (s.extract 0 24).size = 24 := by rw [ByteArray.size_extract]; omega
  have p1 : (0 : Int) ≤ 24 := by omega
  have p2 : (24 : Int) ≤ (s.size : Int) := by omega
  have p3 : (0 : Int) < (s.size : Int) := by omega
  have p4 : (1 : Int) < (s.size : Int) := by omega
  have p5 : (2 : Int) < (s.size : Int) := by omega
  have p6 : (3 : Int) < (s.size : Int) := by omega
  have p7 : (4 : Int) < (s.size : Int) := by omega
  have p8 : (5 : Int) < (s.size : Int) := by omega
  simp only [if_pos hs, if_pos p1, if_pos p2]
  refine Ev.bind (impl_sumOn_ev 0 (s.extract 0 24) (by omega) (by decide)) ?_
  show Ev (fun k => if (s.extract 24 s.size).toList = (strOfNums (lowL ((Crc.sumL 0 (Crc.bl (s.extract 0 24)) : Nat) : Int))).toList then _ else _) _
  by_cases hl : (strOfNums (lowL ((Crc.sumL 0 (Crc.bl (s.extract 0 24)) : Nat) : Int))).toList = (s.extract 24 s.size).toList
  rotate_left
  · simp only [if_neg hl, if_neg (fun h => hl (Eq.symm h))]; exact Ev.now _
  have hm : 0 ≤ mn 16 (bt s 5) ∧ mn 16 (bt s 5) ≤ 16 := by unfold mn; split <;> omega
  have w5 : wrap64 (bt s 5) = bt s 5 := wrap_id (by omega) (by omega)
  have w0 : wrap64 (bt s 0) = bt s 0 := wrap_id (by omega) (by omega)
  have w1 : wrap64 (bt s 1) = bt s 1 := wrap_id (by omega) (by omega)
  have w3 : wrap64 (bt s 3) = bt s 3 := wrap_id (by omega) (by omega)
  have w6 : wrap64 (6 + mn 16 (bt s 5)) = 6 + mn 16 (bt s 5) := wrap_id (by omega) (by omega)
  have o1 : Go.bits .or .i64 (wrap64 (bt s 1 * 256)) (wrap64 (bt s 2)) = bt s 1 * 256 + bt s 2 := or_add (by omega) r2
  have o3 : Go.bits .or .i64 (wrap64 (bt s 3 * 256)) (wrap64 (bt s 4)) = bt s 3 * 256 + bt s 4 := or_add (by omega) r4
  have p10 : (6 : Int) ≤ 6 + mn 16 (bt s 5) := by omega
  have p11 : 6 + mn 16 (bt s 5) ≤ (s.size : Int) := by omega
  simp only [if_pos hl, if_pos hl.symm, if_pos p3, if_pos p4, if_pos p5, if_pos p6, if_pos p7, if_pos p8, w5, w0, w1, w3, w6, o1, o3, if_pos p10, if_pos p11, impl_GoodFrame_eq, Option.bind_some]
  cases hg : goodF (bt s 0) (bt s 1 * 256 + bt s 2) (bt s 3 * 256 + bt s 4) (s.extract 6 (6 + mn 16 (bt s 5)).toNat)
  · simp only [Bool.false_eq_true, if_false]; exact Ev.now _
  · simp only [if_true]
    refine Ev.bind (impl_frameBytes_ev _ _ _ _ (goodF_bd hg).2.2.2.2.2.2) ?_
    split <;> exact Ev.now _

theorem impl_CheckFrame_ev (s : ByteArray) (a1 a2 a3 : Int) : Ev (fun k => impl_CheckFrame.f k s a1 a2 a3) (checkV s a1 a2 a3) := by
  unfold impl_CheckFrame.f checkV
  refine Ev.bind (impl_ReadFrame_ev s) ?_
  have h := readV_code s
  generalize readV s = g at h
  obtain ⟨k, a, e, b, c, ok⟩ := g
  cases ok
  · have hc : ¬ c = 0 := h.2 rfl
    simp only [Bool.false_eq_true, if_false, if_neg hc]
    exact Ev.now _
  · obtain rfl : c = 0 := h.1 rfl
    have n3 : ¬ (3 : Nat) = 0 := by omega
    have n4 : ¬ (4 : Nat) = 0 := by omega
    have n5 : ¬ (5 : Nat) = 0 := by omega
    simp only [if_true, if_neg n3, if_neg n4, if_neg n5]
    repeat' split
    all_goals exact Ev.now _

theorem strings_Join_cat (l : List ByteArray) (h1 : l.length ≤ 1048576) (h2 : (catB l).size ≤ 1048576) : strings_Join.f l (⟨#[]⟩ : ByteArray) = some (catB l) := by
  have e : strings_Join.joined l (⟨#[]⟩ : ByteArray) = (catB l).data.toList := by
    unfold strings_Join.joined
    rw [catB_data]
    show ([] : List UInt8).intercalate (l.map (·.data.toList)) = _
    generalize l.map (·.data.toList) = m
    cases m with
    | nil => rfl
    | cons x r =>
      have := Lib.join_cons x r []
      unfold Lib.join at this
      rw [this]
      unfold Lib.joinTail
      simp
  unfold strings_Join.f
  rw [e]
  have hl : (catB l).data.toList.length = (catB l).size := by rw [Array.length_toList]; rfl
  rw [if_pos ⟨by omega, by omega⟩]

theorem impl_SplitBody_l0 : ∀ (f : Nat) (s : ByteArray) (acc : List ByteArray), s.size ≤ 16 * f → acc.length + f ≤ 100 → Ev (fun k => impl_SplitBody.l0 k s acc) (acc ++ splitL f s, true) := by
  intro f
  induction f with
  | zero =>
    intro s acc hs ha
    exact Ev.step (f := fun _ => some (acc ++ [s], true)) (fun k => by simp only [impl_SplitBody.l0]; rw [if_neg (by omega), if_pos (by omega)]) (Ev.now _)
  | succ f ih =>
    intro s acc hs ha
    unfold splitL
    by_cases h : 16 < s.size
    · rw [if_pos h]
      have := ih (s.extract 16 s.size) (acc ++ [s.extract 0 16]) (by simp only [ByteArray.size_extract]; omega) (by simp; omega)
      rw [List.append_assoc] at this
      refine Ev.step (f := fun k => impl_SplitBody.l0 k (s.extract 16 s.size) (acc ++ [s.extract 0 16])) (fun k => ?_) this
      simp only [impl_SplitBody.l0]
      rw [if_pos (by omega), if_pos (by omega), if_pos (by omega), if_pos (by omega)]
    · rw [if_neg h]
      exact Ev.step (f := fun _ => some (acc ++ [s], true)) (fun k => by simp only [impl_SplitBody.l0]; rw [if_neg (by omega), if_pos (by omega)]) (Ev.now _)
theorem impl_SplitBody_ev (s : ByteArray) : Ev (fun k => impl_SplitBody.f k s) (splitV s) := by
  unfold impl_SplitBody.f splitV
  simp only [impl_within_eq, Option.bind_some]
  by_cases h : 1 ≤ s.size ∧ s.size ≤ 160
  · have z : (1 : Int) ≤ (s.size : Int) ∧ (s.size : Int) ≤ 160 := by omega
    rw [if_pos h]
    simp only [decide_eq_true z, if_true]
    have := impl_SplitBody_l0 10 s [] (by omega) (by simp)
    simpa using this
  · have z : ¬ ((1 : Int) ≤ (s.size : Int) ∧ (s.size : Int) ≤ 160) := by omega
    rw [if_neg h]
    simp only [decide_eq_false z]
    exact Ev.now _

theorem slices_Equal_string_string_l0 (l m : List ByteArray) (hlm : l.length = m.length) (hl : l.length ≤ 140737488351232) : ∀ d i : Nat, i + d = l.length → Ev (fun k => slices_Equal_string_string.l0 k l m (l.length : Int) (i : Int)) (decide (l.drop i = m.drop i)) := by
  intro d
  induction d with
  | zero =>
    intro i hi
    obtain rfl : i = l.length := by omega
    have e : decide (l.drop l.length = m.drop l.length) = true := by
      have e2 : m.drop l.length = [] := by rw [hlm, List.drop_length]
      rw [e2, List.drop_length]; rfl
    rw [e]
    exact Ev.step (f := fun _ => some true) (fun k => by simp only [slices_Equal_string_string.l0]; rw [if_neg (by omega)]) (Ev.now _)
  | succ d ih =>
    intro i hi
    have hlt : i < l.length := by omega
    have hlt2 : i < m.length := by omega
    rw [List.drop_eq_getElem_cons hlt, List.drop_eq_getElem_cons hlt2]
    by_cases e : l[i] = m[i]
    · have : decide (l[i] :: l.drop (i + 1) = m[i] :: m.drop (i + 1)) = decide (l.drop (i + 1) = m.drop (i + 1)) := by simp only [List.cons.injEq, e, true_and]
      rw [this]
      refine Ev.step (f := fun k => slices_Equal_string_string.l0 k l m (l.length : Int) ((i + 1 : Nat) : Int)) (fun k => ?_) (ih (i + 1) (by omega))
      simp only [slices_Equal_string_string.l0, rdOf_nat _ l i hlt, rdOf_nat _ m i hlt2, wrap_succ2 i (by omega)]
      rw [if_pos (by omega), if_pos (by omega), if_pos (by omega), if_pos (by omega), if_pos (by rw [e])]
    · have : decide (l[i] :: l.drop (i + 1) = m[i] :: m.drop (i + 1)) = false := by simp only [List.cons.injEq, e, false_and, decide_false]
      rw [this]
      refine Ev.step (f := fun k => some false) (fun k => ?_) (Ev.now _)
      simp only [slices_Equal_string_string.l0, rdOf_nat _ l i hlt, rdOf_nat _ m i hlt2, wrap_succ2 i (by omega)]
      rw [if_pos (by omega), if_pos (by omega), if_pos (by omega), if_pos (by omega), if_neg (fun h => e (bytes_ext h))]
theorem slices_Equal_string_string_ev (l m : List ByteArray) (hl : l.length ≤ 140737488351232) : Ev (fun k => slices_Equal_string_string.f k l m) (decide (l = m)) := by
  unfold slices_Equal_string_string.f
  by_cases h : l.length = m.length
  · simp only [if_pos (show (l.length : Int) = (m.length : Int) by omega)]
    exact slices_Equal_string_string_l0 l m h hl l.length 0 (by omega)
  · simp only [if_neg (show ¬ (l.length : Int) = (m.length : Int) by omega)]
    have : decide (l = m) = false := by simp only [decide_eq_false_iff_not]; rintro rfl; exact h rfl
    rw [this]
    exact Ev.now _

theorem impl_JoinBody_ev (l : List ByteArray) (h2 : (catB l).size ≤ 1048576) : Ev (fun k => impl_JoinBody.f k l) (joinV l) := by
  unfold impl_JoinBody.f joinV
  simp only [impl_within_eq, Option.bind_some]
  by_cases h : 1 ≤ l.length ∧ l.length ≤ 10
  rotate_left
  · have z : ¬ ((1 : Int) ≤ (l.length : Int) ∧ (l.length : Int) ≤ 10) := by omega
    rw [if_neg h]
    simp only [decide_eq_false z]
    exact Ev.now _
  have z : (1 : Int) ≤ (l.length : Int) ∧ (l.length : Int) ≤ 10 := by omega
  have hne : l ≠ [] := fun e => by rw [e] at h; simp at h
  rw [if_pos h]
  simp only [decide_eq_true z, if_true, strings_Join_cat l (by omega) h2, Option.bind_some]
  refine Ev.bind (f := fun k bt => if bt.2 = true then ((slices_Equal_string_string.f k bt.1 l).bind fun t => if t = true then some (catB l, true) else some ((⟨#[]⟩ : ByteArray), false)) else some ((⟨#[]⟩ : ByteArray), false)) (impl_SplitBody_ev (catB l)) ?_
  unfold splitV
  cases hk : okJ l with
  | true =>
    have hs := okJ_size hk hne
    rw [if_pos (show 1 ≤ (catB l).size ∧ (catB l).size ≤ 160 by omega), split_cat l 10 hk hne (by omega)]
    have E := slices_Equal_string_string_ev l l (by omega)
    rw [decide_eq_true rfl] at E
    simp only [if_true]
    exact Ev.bind (f := fun _ t => if t = true then some (catB l, true) else some ((⟨#[]⟩ : ByteArray), false)) E (Ev.now _)
  | false =>
    by_cases hs : 1 ≤ (catB l).size ∧ (catB l).size ≤ 160
    · rw [if_pos hs]
      have hp := ok_split 10 (catB l) hs.1 (by omega)
      have hpl := splitL_length 10 (catB l)
      have E := slices_Equal_string_string_ev (splitL 10 (catB l)) l (by omega)
      rw [decide_eq_false (fun e => by rw [e, hk] at hp; cases hp)] at E
      simp only [if_true]
      exact Ev.bind (f := fun _ t => if t = true then some (catB l, true) else some ((⟨#[]⟩ : ByteArray), false)) E (Ev.now _)
    · rw [if_neg hs]
      exact Ev.now _

theorem impl_ReadAll_l0 (kd pl le : Int) (l : List ByteArray) (hl : l.length ≤ 10) : ∀ (d i : Nat) (acc : List ByteArray), i + d = l.length → acc.length ≤ i → (∀ s ∈ acc, s.size ≤ 16) →
    Ev (fun k => impl_ReadAll.l0 k kd pl le acc l (l.length : Int) (i : Int)) (raL kd pl le (l.drop i) i acc) := by
  intro d
  induction d with
  | zero =>
    intro i acc hi ha hs
    obtain rfl : i = l.length := by omega
    rw [List.drop_length]
    have hc := catB_le acc hs
    refine Ev.step (f := fun k => (impl_JoinBody.f k acc).bind fun b => if b.2 = true then some (b.1, (0 : Int), true) else some ((⟨#[]⟩ : ByteArray), (3 : Int), false)) (fun k => by rw [impl_ReadAll.l0.eq_2, if_neg (by omega)]) ?_
    refine Ev.bind (f := fun k b => if b.2 = true then some (b.1, (0 : Int), true) else some ((⟨#[]⟩ : ByteArray), (3 : Int), false)) (impl_JoinBody_ev acc (by omega)) ?_
    unfold raL
    split <;> exact Ev.now _
  | succ d ih =>
    intro i acc hi ha hs
    have hlt : i < l.length := by omega
    rw [List.drop_eq_getElem_cons hlt]
    unfold raL
    refine Ev.step (f := fun k => (impl_CheckFrame.f k l[i] kd (wrap64 (pl + (i : Int))) le).bind fun b => if b.2.2.2.2.2 = true then (if acc.length < 8796093022208 then impl_ReadAll.l0 k kd pl le (acc ++ [b.2.2.2.1]) l (l.length : Int) ((i + 1 : Nat) : Int) else none) else some ((⟨#[]⟩ : ByteArray), b.2.2.2.2.1, false)) (fun k => by rw [impl_ReadAll.l0.eq_2, if_pos (by omega), if_pos (by omega), if_pos (by omega), rdOf_nat _ l i hlt, wrap_succ2 i (by omega)]) ?_
    refine Ev.bind (f := fun k b => if b.2.2.2.2.2 = true then (if acc.length < 8796093022208 then impl_ReadAll.l0 k kd pl le (acc ++ [b.2.2.2.1]) l (l.length : Int) ((i + 1 : Nat) : Int) else none) else some ((⟨#[]⟩ : ByteArray), b.2.2.2.2.1, false)) (impl_CheckFrame_ev l[i] kd (wrap64 (pl + (i : Int))) le) ?_
    have hbs := checkV_body l[i] kd (wrap64 (pl + (i : Int))) le
    generalize checkV l[i] kd (wrap64 (pl + (i : Int))) le = b at hbs
    by_cases hb : b.2.2.2.2.2 = true
    · simp only [if_pos hb, if_pos (show acc.length < 8796093022208 by omega)]
      exact ih (i + 1) _ (by omega) (by rw [List.length_append, List.length_singleton]; omega) (fun s h => by
        rcases List.mem_append.1 h with h | h
        · exact hs s h
        · rw [List.mem_singleton] at h
          rw [h]; exact hbs)
    · simp only [if_neg hb]
      exact Ev.now _
theorem impl_ReadAll_ev (l : List ByteArray) (kd pl le : Int) : Ev (fun k => impl_ReadAll.f k l kd pl le) (readAllV l kd pl le) := by
  unfold impl_ReadAll.f readAllV
  simp only [impl_within_eq, Option.bind_some]
  by_cases h : 1 ≤ l.length ∧ l.length ≤ 10
  · have z : (1 : Int) ≤ (l.length : Int) ∧ (l.length : Int) ≤ 10 := by omega
    rw [if_pos h]
    simp only [decide_eq_true z, if_true]
    exact impl_ReadAll_l0 kd pl le l h.2 l.length 0 [] (by omega) (Nat.zero_le _) (fun s h => by cases h)
  · have z : ¬ ((1 : Int) ≤ (l.length : Int) ∧ (l.length : Int) ≤ 10) := by omega
    rw [if_neg h]
    simp only [decide_eq_false z]
    exact Ev.now _

theorem laws_eqStringS_l0 (l m : List ByteArray) (hlm : l.length = m.length) (hl : l.length ≤ 140737488351232) : ∀ d i : Nat, i + d = l.length → Ev (fun k => laws_eqStringS.l0 k l m (i : Int)) (decide (l.drop i = m.drop i)) := by
  intro d
  induction d with
  | zero =>
    intro i hi
    obtain rfl : i = l.length := by omega
    have e : decide (l.drop l.length = m.drop l.length) = true := by
      have e2 : m.drop l.length = [] := by rw [hlm, List.drop_length]
      rw [e2, List.drop_length]; rfl
    rw [e]
    exact Ev.step (f := fun _ => some true) (fun k => by simp only [laws_eqStringS.l0]; rw [if_neg (by omega)]) (Ev.now _)
  | succ d ih =>
    intro i hi
    have hlt : i < l.length := by omega
    have hlt2 : i < m.length := by omega
    rw [List.drop_eq_getElem_cons hlt, List.drop_eq_getElem_cons hlt2]
    by_cases e : l[i] = m[i]
    · have : decide (l[i] :: l.drop (i + 1) = m[i] :: m.drop (i + 1)) = decide (l.drop (i + 1) = m.drop (i + 1)) := by simp only [List.cons.injEq, e, true_and]
      rw [this]
      refine Ev.step (f := fun k => laws_eqStringS.l0 k l m ((i + 1 : Nat) : Int)) (fun k => ?_) (ih (i + 1) (by omega))
      simp only [laws_eqStringS.l0, rdOf_nat _ l i hlt, rdOf_nat _ m i hlt2, wrap_succ2 i (by omega)]
      rw [if_pos (by omega), if_pos (by omega), if_pos (by omega), if_pos (by rw [e])]
    · have : decide (l[i] :: l.drop (i + 1) = m[i] :: m.drop (i + 1)) = false := by simp only [List.cons.injEq, e, false_and, decide_false]
      rw [this]
      refine Ev.step (f := fun k => some false) (fun k => ?_) (Ev.now _)
      simp only [laws_eqStringS.l0, rdOf_nat _ l i hlt, rdOf_nat _ m i hlt2, wrap_succ2 i (by omega)]
      rw [if_pos (by omega), if_pos (by omega), if_pos (by omega), if_neg (fun h => e (bytes_ext h))]
theorem laws_eqStringS_ev (l m : List ByteArray) (hl : l.length ≤ 140737488351232) : Ev (fun k => laws_eqStringS.f k l m) (decide (l = m)) := by
  unfold laws_eqStringS.f
  by_cases h : l.length = m.length
  · simp only [if_pos (show (l.length : Int) = (m.length : Int) by omega)]
    exact laws_eqStringS_l0 l m h hl l.length 0 (by omega)
  · simp only [if_neg (show ¬ (l.length : Int) = (m.length : Int) by omega)]
    have : decide (l = m) = false := by simp only [decide_eq_false_iff_not]; rintro rfl; exact h rfl
    rw [this]
    exact Ev.now _

theorem law_ReadAll (l : List ByteArray) (a1 a2 a3 : Int) (hl : l.length ≤ 9223372036854775807) (hs : ∀ s ∈ l, s.size ≤ 9223372036854775807) : ∃ K, laws_FnExactReadAll.f K l a1 a2 a3 = some true := by
  refine Ev.rounds ?_
  unfold laws_FnExactReadAll.f
  have E := laws_szStringS_ev l hl hs
  have hb : 0 ≤ (if l.length ≤ 1048576 then szT l (1048576 - (l.length : Int)) else -1) → l.length ≤ 1048576 := by
    intro h
    split at h
    · assumption
    · omega
  generalize (if l.length ≤ 1048576 then szT l (1048576 - (l.length : Int)) else -1) = a at E hb
  refine Ev.bind (f := fun k t => if t < 0 then some true else _) E ?_
  by_cases ha : a < 0
  · simp only [if_pos ha]; exact Ev.now _
  simp only [if_neg ha]
  have h1 := hb (by omega)
  have ET := laws_toStringS_ev l h1
  refine Ev.bind (f := fun k t => _) ET ?_
  refine Ev.bind (f := fun k t => _) (spec_ReadAll_ev l a1 a2 a3) ?_
  refine Ev.bind (f := fun k t => _) ET ?_
  refine Ev.bind (f := fun k t => _) (impl_ReadAll_ev l a1 a2 a3) ?_
  simp only [if_true, bne_self_eq_false]
  have EE := laws_eqStringS_ev l l (by omega)
  rw [decide_eq_true rfl] at EE
  refine Ev.step (f := fun k => (laws_toStringS.f k l).bind fun t => (laws_eqStringS.f k l t).bind fun u => if u = true then some true else some false) (fun k => by rw [laws_FnExactReadAll.j0.eq_2, if_neg (by decide)]) ?_
  exact Ev.bind (f := fun k t => (laws_eqStringS.f k l t).bind fun u => if u = true then some true else some false) ET (Ev.bind (f := fun k u => if u = true then some true else some false) EE (Ev.now _))
theorem laws_FnExactReadAll_calls (A0 : Option Addr) (c0 : Nat) (l0 : List ByteArray) (a1 a2 a3 : Int) (w : World) (hr0 : Kd.C Kd.string w A0 l0.length l0) (hc0 : l0.length ≤ c0) (hw0 : ∀ s ∈ l0, s.size ≤ 9223372036854775807) (hw1 : (Lit.int .i64 a1).wf = true) (hw2 : (Lit.int .i64 a2).wf = true) (hw3 : (Lit.int .i64 a3).wf = true) :
    Calls Try.prog 14 #[.slice A0 l0.length c0, .int .i64 a1, .int .i64 a2, .int .i64 a3] w fun e w' => e = .returned (.bool true) ∧ Below w.heap.size w w' := by
  obtain ⟨K, hK⟩ := law_ReadAll l0 a1 a2 a3 hr0.2.1 hw0
  exact laws_FnExactReadAll.calls K A0 c0 l0 a1 a2 a3 true w hr0 hc0 hK

end Go.Proofs.Ytncgojfhaagkkaa.Pure
